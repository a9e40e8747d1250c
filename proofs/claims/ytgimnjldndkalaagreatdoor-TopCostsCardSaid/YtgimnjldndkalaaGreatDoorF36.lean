/- Of the proof of TopCosts: The walks of the reader: the next line. -/
import Derived.WalkLawsBesides
import Derived.Test.YtgimnjldndkalaaGreatDoorF35
set_option linter.all false
set_option maxHeartbeats 2000000
set_option maxRecDepth 100000
namespace Go.Proofs.YtgimnjldndkalaaGreatDoor
section
open Go.Proofs.Tryz
open Go.RowKit jm uf
def uv (w0:World) (R:Nat) (E:Value) (L:List kW) (st:Rd) (w:World) (z:tV w0 E L) (H:w0.heap.size<=R) (T:r6 w0 R E L w st) (O:L.length<=1000000):
  Calls prog 115 #[.pointer R] w fun e w'=> ∃v,e=.returned v/\kX w0 v (fV st).1/\r6 w0 R E L w' (fV st).2/\(∀g t cs,g≠R->fc w g t cs->fc w' g t cs)/\kz R w w':=by
 obtain⟨rest,x,n,o⟩:=st;obtain⟨k,F,G,P,j,d,r,s,u⟩:=T;simp only at j d r s;obtain⟨A,c,rfl,q1,q2,B⟩:=tV.open_ z;obtain⟨c0,c1,c2,c3,c4,c5,c6,c7,c8,c9⟩:=d.wu;have f1:=d.Qt 1;by_cases Q:k<L
 ·obtain⟨l,D⟩:=ec Q;obtain⟨b,U,rfl,m,v,K,a⟩:=B k l D;have C:=a7 u H a;have f:=zH a;have h:rest=l::L.drop (k+1):=by rw[<-j];exact iV.trans (by rw[D];rfl)
  obtain⟨N,M⟩:=Zb K h;clear z B D K a h;go_enter func115,ntmps115;go_wp2_with fail
  go_quiet (fail)
  go_wp2_with fail;have y:=(d.drewN nq).gH 1 ((k:Int)+1:);simp only[fI,fJ] at y;have hW:=(below_drewN u nq).setCell (p:=pA R 1) lE ((k:Int)+1:);have I:=a7 hW H f;obtain⟨V,W,X,Y,Z,d5,d6,d7,d8,d9⟩:=y.wu;have S:(k:Int)+1-1=(k:Int):=oG;have q:Hid (r6 w0 R (.slice (pA b U) L c) L ((w.drewN nq).setCell (pA R 1) ((k:Int)+1:)) ⟨L.drop (k+1),x,n,o⟩):=
   zH ⟨k+1,F,G,oG,rfl,by rw[show(((k+1:Nat)):Int)=(k:Int)+1 by omega];exact y,(r.below (below_drewN (bS w w) nq) lE).fG (p:=pA R 1) lS _,(s.below (below_drewN (bS w w) nq) lE).fG (p:=pA R 1) lS _,hW⟩
  clear c0 c1 C
  go_quiet (fail)
  go_wp2_with fail;go_ret
  rw[M.out];exact⟨_,rfl,N,q.below (below_drewN bF _),fun g t cs J m=>((m.drewN _).kj (p:=pA R 1) J _).drewN _,(((kz.refl R w).below (below_drewN bF _)).set 1 _).below (below_drewN bF _)⟩
 ·have i:rest=[]:=by rw[<-j];exact iE oG
  subst i;clear z B;go_enter func115,ntmps115;go_wp2_with fail;have q:Hid (r6 w0 R (.slice A L c) L w ⟨[],x,n,o⟩):=zH ⟨k,F,G,P,j,d,r,s,u⟩
  go_quiet (fail)
  go_wp2_with fail;go_ret
  exact⟨_,rfl,RS.none_ _ _,q.below (below_drewN bF _),fun g t cs J m=>m.drewN _,(kz.refl R w).below (below_drewN bF _)⟩
def NL {α:Type} {l m:List α} {k:Nat} {a b:α} (o:l[k]? =some a) (r:m[k]? =some b):(l.drop k=m.drop k)↔(a=b/\l.drop (k+1)=m.drop (k+1)):=by rw[iV (l:=l),iV (l:=m),o,r];simp
def CE (g I:Value) (l m:List (List UInt8)) (w:World) (B:kX w g l) (G:kX w I m):
  Calls prog 114 #[g,I] w fun e w'=>e=.returned (.bool (decide (l=m)))/\ ∃n,w'=w.drewN n:=by
 obtain⟨A,c,rfl,M,z,u⟩:=B.open_;obtain⟨S,c',rfl,N,O,x⟩:=G.open_;obtain⟨y,L⟩:=Zb u x;clear u x B G;by_cases d:l.length=m;rotate_left
 ·have H:Hid (decide (l=m)=false):=zH (decide_eq_false fun e=>d (by rw[e]));have i:((l.length:Int) !=(m.length:Int))=true:=by rw[bne_iff_ne];omega
  clear d;go_enter func114,ntmps114;go_wp2;go_ret;exact⟨ji H.symm,0,rfl⟩
 ·have E:=zH d;have i:((l.length:Int) !=(m.length:Int))=false:=by rw[bne_eq_false_iff_eq];omega
  clear d;go_enter func114,ntmps114;go_wp2_with fail;clear i;go_loopw [13] (fun D wr=> ∃(k p:Nat),k<=l/\D=.int .i64 k/\wr=w.drewN p/\Hid ((l=m)↔(l.drop k=m.drop k))) (fun D _=>l.length-(intOf D).toNat)
  case atStart=>exact⟨0,0,eC _,rfl,rfl,oF⟩
  case round=>
   obtain⟨k,p,V,rfl,rfl,F⟩:=hrel;by_cases C:k<l
   ·obtain⟨a,o⟩:=ec C;have v:k<m.length:=by have:=E.out;omega
    obtain⟨b,r⟩:=ec v;have q:=zH (F.trans (NL o r));obtain⟨T,W,rfl,P,s⟩:=y k a o;obtain⟨U,X,rfl,Q,t⟩:=L k b r;clear o r;by_cases h:a=b
    ·subst h;obtain⟨J,f⟩:=nE (⟨a.toArray⟩:ByteArray);rw[<-f] at s t;clear f;go_wp2_with fail
     go_quiet (fail)
     go_wp2;go_roundw
     case rel=>exact⟨k+1,_,oG,by go_num,rfl,(q.trans sI)⟩
     case measure=>exact mI
    ·obtain⟨J,f⟩:=nE (⟨a.toArray⟩:ByteArray);obtain⟨R,j⟩:=nE (⟨b.toArray⟩:ByteArray);have i:(J.toList==R.toList)=false:=by rw[beq_eq_false_iff_ne,mR,mR,f,j];simpa using h
     rw[<-f] at s;rw[<-j] at t;have K:Hid (decide (l=m)=false):=zH (decide_eq_false fun e=>h (q.1 e).1);clear h f j;go_wp2_with fail
     go_quiet (fail)
     go_wp2;go_ret;exact⟨ji K.symm,_,World.drewN_drewN _ _ _⟩
   ·have H:Hid (decide (l=m)=true):=zH (decide_eq_true (F.out.2 (by rw[iE oG,iE (by have:=E.out;omega)])));go_wp2;go_ret;exact⟨ji H.symm,_,rfl⟩
def fc.strs {w:World} {g:Nat} {t:TypeId} {l:List (List UInt8)} (h:fc w g t (l.map kI)) (B:l.length<=1000:=by decide):kX w (.slice g l l) l:=
 ⟨_,_,rfl,lE,by simp only[maxLen];omega,by simp,fun _=>⟨g,0,rfl,h.lt,fun j u a=>by rw[gW,h.cell];exact a⟩⟩
def Pd (w0:World) (R:Nat) (g:Value) (L:List kW) (st:Rd) (w:World) (d:tV w0 g L) (m:w0.heap.size<=R) (i:r6 w0 R g L w st) (u:L.length<=1000000):
  Calls prog 72 #[.pointer R] w fun e w'=>e=.returned (.bool (uX st).isSome)/\Below R w0 w'/\ ∀b,uX st=some b->r6 w0 R g L w' b/\kz R w w':=by
 obtain⟨y,q⟩:=Zb d i;clear d i;go_enter func72,ntmps72;go_wp2_with fail;refine(uv w0 R g L st _ y m q u).mono ?_;rintro e r ⟨v,rfl,n,a,-,f⟩;obtain⟨j,k⟩:=Zb f a;have z:=a.lt;have s:=zH (kX.below n a.from_ m);have t:=fc.new r 9 [.string ⟨#[116,114,97,110,116,101,114]⟩,.string ⟨#[49]⟩];have c:Hid (∀o p,r6 w0 R g L ((r.alloc o).drewN p) (fV st).2):=zH fun o p=>(k.below (jX bF _)).below (below_drewN bF p);clear a n f;go_wp2_with fail;refine(CE v _ (fV st).1 [rK,JS] _ (kX.below s (jX bF _) lE) (fc.strs (l:=[rK,JS]) t)).mono ?_;rintro e A ⟨rfl,p,rfl⟩;go_wp2;go_ret;have x:uX st=if (fV st).1=[rK,JS] then some (fV st).2 else none:=rfl;rw[x];by_cases h:(fV st).1=[rK,JS]
 ·rw[if_pos h];exact⟨ji (decide_eq_true h),(c _ _).from_,fun b e=>by obtain rfl:=fg e;exact⟨c _ _,(j.below (jX bF _)).below (below_drewN bF _)⟩⟩
 ·rw[if_neg h];exact⟨ji (decide_eq_false h),(c _ _).from_,fun b e=>by cases e⟩
def TG (w0:World) (R:Nat) (g:Value) (L:List kW) (st:Rd) (w:World) (d:tV w0 g L) (i:r6 w0 R g L w st):
  Calls prog 77 #[.pointer R] w fun e w'=>e=.returned (.bool (decide (st.rest=[])))/\r6 w0 R g L w' st/\kz R w w':=by
 have q:=zH i;obtain⟨k,f,h,M,z,b,j,l,m⟩:=i;obtain⟨A,c,rfl,n,o,-⟩:=tV.open_ d;obtain⟨c0,c1,c2,c3,c4,c5,c6,c7,c8,c9⟩:=b.wu;have a:Hid (decide (st.rest=[])=((k:Int)==(L.length:Int))):=by
  show _=_;rw[<-z];by_cases e:k=L
  ·subst e;simp
  ·rw[beq_eq_false_iff_ne.2 oG,decide_eq_false];rw[List.drop_eq_nil_iff];omega
 clear d z;go_enter func77,ntmps77;go_wp2_with fail
 go_quiet (fail)
 go_wp2;go_ret;exact⟨ji a.symm,q.below (below_drewN bF _),(kz.refl R w).below (below_drewN bF _)⟩
end
end Go.Proofs.YtgimnjldndkalaaGreatDoor
