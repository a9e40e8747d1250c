/- Of the proof of TopGreat: The walks of isWord and of Number, the program's and the reference's. -/
import Derived.Test.YtgimnjldndkalaaGreatDoorG0
import Derived.Test.YtgimnjldndkalaaGreatDoorF20
set_option linter.all false
set_option maxHeartbeats 1000000
set_option maxRecDepth 100000
namespace Go.Proofs.YtgimnjldndkalaaGreatDoor
variable {w:World}
section
open Go.Proofs.Tryz
open Go.RowKit ue
theorem Q4{p:Prop}(h:p:=by
 go_wp2
 go_round
 case rel=>exact⟨k+1,_,oG,by go_num,rfl,oG,oG,y.1,by rw[y.out.2,E.out]⟩
 case measure=>exact mI):p:=h
variable {c:UInt8} {l:List UInt8} {n:Nat}
def KM (s:ByteArray) (w:World) (H:s.size<=4294967281):
  Calls prog 113 #[.string s] w fun e w'=>e=.returned (.bool (isWord s.data.toList))/\w'=w:=by
 by_cases o:s.size=0
 ·obtain rfl:=AP s o;clear o H;go_enter func113,ntmps113;go_wp2_with fail
  go_loop [6] (fun i=>i=.int .i64 0) (fun _=>0)
  case atStart=>exact rfl
  case round=>subst hrel;go_wp2;go_ret;exact⟨rfl,rfl⟩
 ·go_enter func113,ntmps113;have c:=sJ s oG;have C:=zH c;have j:0<s.size:=oG;clear c o;go_wp2_with fail
  go_loop [6] (fun i=> ∃k:Nat,k<=s.size/\i=.int .i64 k/\Hid ((s.data.toList.take k).all oy=true)) (fun i=>s.size-(intOf i).toNat)
  case atStart=>exact⟨0,eC _,rfl,rfl⟩
  case round=>
   obtain⟨k,L,rfl,p⟩:=hrel;by_cases g:k<s.size
   ·obtain⟨t,B⟩:=Zb (se s k g) (De s k g);by_cases d:oy s[k]=true
    ·obtain⟨m,F⟩:=(Dk _).1 d;have D:=zH d;clear d;go_wp2
     go_round
     case rel=>exact⟨k+1,oG,by go_num,by show(_:List UInt8).all oy=true;rw[t.out,my,p.out];simp[D.out]⟩
     case measure=>exact mI
    ·have q:Hid (isWord s.data.toList=false):=by
      show isWord s.data.toList=false;have:s.data.toList.all oy=false:=by rw[nV];exact⟨_,B,by simpa using d⟩
      simp[isWord,this]
     have A:(s[k].toNat:Int)<33\/(33<=(s[k].toNat:Int)/\126<(s[k].toNat:Int)):=by
      by_cases a:33<=(s[k].toNat:Int)
      ·by_cases b:(s[k].toNat:Int)<=126
       ·exact absurd ((Dk s[k]).2 ⟨a,b⟩) d
       ·exact .inr ⟨a,oG⟩
      ·exact .inl oG
     clear d
     rcases A with m|⟨m,F⟩
     all_goals
      go_wp2;go_ret;exact⟨ji q.symm,rfl⟩
   ·obtain rfl:k=s.size:=oG;have v:Hid (isWord s.data.toList=true):=by have:=p.out;rw[DJ] at this;exact(sG this).2 C
    have l:=uV s j;go_wp2;go_ret;exact⟨ji v.symm,rfl⟩
def Ln (l:List UInt8):Nat:=if isNum l then mM 0 l else 0
def MT (h:isNum l=false):Ln l=0:=by unfold Ln;rw[h];rfl
def RG (h:isNum l=true):Ln l=mM 0 l:=by unfold Ln;rw[if_pos h]
def EY (c:UInt8):qT c=true↔48<=(c.toNat:Int)/\(c.toNat:Int)<=57:=by unfold qT;rw[a6,decide_eq_true_eq,decide_eq_true_eq];omega
def N7 (a:c∈l) (h: ¬qT c=true):isNum l=false:=by
 have:l.all qT=false:=by rw[nV];exact⟨c,a,h⟩
 simp[isNum,this]
def KL (h:l.head?=some 48) (m:1<l.length):isNum l=false:=by simp[isNum,h,m]
def KJ (h:l.all qT=true) (o:l≠[]) (f:l.head?≠some 48\/l.length=1):isNum l=true:=by
 unfold isNum;rw[h];have:l.isEmpty=false:=by cases l with|nil=>exact absurd rfl o|cons a t=>rfl
 rw[this]
 rcases f with h|h
 ·have:(l.head?==some 48)=false:=by rw[beq_eq_false_iff_ne];exact h
  rw[this];rfl
 ·have:decide (1<l.length)=false:=by rw[h];rfl
  rw[this];simp
def head_data (s:ByteArray) (h:0<s.size):s.data.toList.head?=some s[0]:=by
 have:s.data.toList[0]? =some s[0]:=by rw[fp (by rw[kC];exact h)];rfl
 rw[List.head?_eq_getElem?,this]
def Gv {a b:Int} {p q:Bool} (h:a=b) (c:p=q):Ending.returned (.tuple #[a,p])=.returned (.tuple #[b,q]):=by rw[h,c]
def UH (h:(100000000000000000:Int)<=(n:Int)):((rU n c:Nat):Int)=1000000000000000000:=by unfold rU;rw[if_pos oG];rfl
def UI (h:(n:Int)<100000000000000000) (A:48<=(c.toNat:Int)):((rU n c:Nat):Int)=(n:Int)*10+((c.toNat:Int)-48):=by unfold rU;rw[if_neg oG];push_cast;omega
def Lp (s:ByteArray) (w:World) (H:s.size<=4294967281):
  Calls prog 152 #[.string s] w fun e w'=>e=.returned (.tuple #[(Ln s.data.toList:Nat),.bool (isNum s.data.toList)])/\w'=w:=by
 by_cases o:s.size=0
 ·obtain rfl:=AP s o;clear o H;go_enter func152,ntmps152;go_wp2
  go_ret2
  exact⟨rfl,rfl⟩
 ·have j:0<s.size:=oG;have l:=uV s j;obtain⟨x,C,u⟩:=Zc (head_data s j) (sJ s j) (kC s);clear o;by_cases f:s[0]=48/\1<s.size
  ·obtain⟨f,m⟩:=f;have q:=zH (KL (x.trans (by rw[f])) (by rw[u.out];exact m));have N:((s[0].toNat:Int)==48)=true:=by rw[f];rfl
   have K:(1:Int)<(s.size:Int):=oG;clear f;go_enter func152,ntmps152;go_wp2
   go_ret2
   exact⟨Gv (by rw[MT q.out];rfl) q.symm,rfl⟩
  ·have I:Hid (s.data.toList.head?≠some 48\/s.data.toList.length=1):=by
    by_cases e:s[0]=48
    ·exact .inr (by rw[u.out];have: ¬1<s.size:=fun h=>f ⟨e,h⟩;omega)
    ·exact .inl (by rw[x.out];intro h;injection h with h;exact e h)
   have r:((s[0].toNat:Int)==48)=false\/(((s[0].toNat:Int)==48)=true/\(s.size:Int)<=1):=by
    by_cases e:s[0]=48
    ·exact .inr ⟨by rw[e];rfl,by have: ¬1<s.size:=fun h=>f ⟨e,h⟩;omega⟩
    ·refine .inl ?_;rw[beq_eq_false_iff_ne];intro h;exact e (BG.1 (by have J:(48:UInt8).toNat=48:=rfl;omega))
   clear f
   rcases r with f|⟨f,hz1⟩
   all_goals
    go_enter func152,ntmps152;go_wp2_with fail;clear f
    go_loop [4,20] (fun O i=> ∃(k:Nat) (z:Int),k<=s.size/\i=.int .i64 k/\O=.int .i64 z/\0<=z/\z<=1000000000000000000/\Hid ((s.data.toList.take k).all qT=true/\((mM 0 (s.data.toList.take k):Nat):Int)=z)) (fun _ i=>s.size-(intOf i).toNat)
    case atStart=>exact⟨0,0,eC _,rfl,rfl,oG,oG,rfl,rfl⟩
    case round=>
     obtain⟨k,z,L,rfl,rfl,M,P,p⟩:=hrel;by_cases g:k<s.size
     ·obtain⟨t,B⟩:=Zb (se s k g) (De s k g);by_cases d:qT s[k]=true
      ·obtain⟨m,F⟩:=(EY _).1 d;have D:=zH d;have y:Hid ((s.data.toList.take (k+1)).all qT=true/\mM 0 (s.data.toList.take (k+1))=rU (mM 0 (s.data.toList.take k)) s[k]):=by show _/\_;rw[t.out,my,p.out.1,Wr];exact⟨by simp[D.out],rfl⟩
       clear d l;by_cases G:100000000000000000<=z
       ·have E:Hid ((rU (mM 0 (s.data.toList.take k)) s[k]:Nat)=(1000000000000000000:Int)):=UH (by rw[p.out.2];exact G);exact Q4
       ·have G:z<100000000000000000:=oG;have E:Hid (((rU (mM 0 (s.data.toList.take k)) s[k]:Nat):Int)=z*10+((s[k].toNat:Int)-48)):=by have:=UI (n:=mM 0 (s.data.toList.take k)) (c:=s[k]) (by rw[p.out.2];exact G) m;rw[p.out.2] at this;exact this
        exact Q4
      ·have q:=zH (N7 B d);have A:(s[k].toNat:Int)<48\/(48<=(s[k].toNat:Int)/\57<(s[k].toNat:Int)):=by
        by_cases a:48<=(s[k].toNat:Int)
        ·by_cases b:(s[k].toNat:Int)<=57
         ·exact absurd ((EY s[k]).2 ⟨a,b⟩) d
         ·exact .inr ⟨a,oG⟩
        ·exact .inl oG
       clear d l
       rcases A with m|⟨m,F⟩
       all_goals
        go_wp2
        go_ret2
        exact⟨Gv (by rw[MT q.out];rfl) q.symm,rfl⟩
     ·obtain rfl:k=s.size:=oG;have v:Hid (isNum s.data.toList=true/\((mM 0 s.data.toList:Nat):Int)=z):=by have:=p.out;rw[DJ] at this;exact⟨KJ this.1 C I,this.2⟩
      clear l;go_wp2
      go_ret2
      exact⟨Gv (by rw[RG v.out.1,v.out.2]) v.1.symm,rfl⟩
end
section
open Go.Proofs.Tryz
open Go.RowKit ue
variable {l:List (List UInt8)} {lb:Nat} {v:Value}
def RI (l:List UInt8) (w:World) (i:l.length<=1000000):
  Calls prog 152 #[.string ⟨l.toArray⟩] w fun e w'=>e=.returned (.tuple #[(Ln l:Nat),.bool (isNum l)])/\w'=w:=
 Lp ⟨l.toArray⟩ w (by rw[<-kC];show l.length<=_;omega)
def nQ (x:List UInt8):Int:=(Ln x:Nat)
def yU (l:List UInt8) (w:World) (i:l.length<=1000000):
  Calls prog 152 #[.string ⟨l.toArray⟩] w fun e w'=>e=.returned (.tuple #[(nQ l),.bool (isNum l)])/\w'=w:=RI l w i
def Ec {α β:Type} {l:List α} {k:Nat} {a:α} (f:α->β) (E:l[k]? =some a):(l.take (k+1)).map f=(l.take k).map f++[f a]:=by rw[gk,E];simp
def Jf {a b:Bool} (h:a=b):Ending.returned (.tuple #[v,a])=.returned (.tuple #[v,b]):=by rw[h]
def QG:(prog.info? 3).map (fun i=>(i.zero,i.size,i.bytes))=some (some (.int .i64 0),1,8):=kR
def yV (l:List (List UInt8)):List Int:=if l.all isNum then l.map nQ else []
def uw (h:l.all isNum=true):yV l=l.map nQ:=by unfold yV;rw[if_pos h]
def RM (h:l.all isNum=false):yV l=[]:=by unfold yV;rw[h];rfl
def qS (lb:Nat) (w:World) (v:Value) (l:List Int):Prop:=w.ownsRow lb 3 1 v l (l.map (Value.int .i64))
def qS.reads {l:List Int} (h:qS lb w v l):gx w .i64 v l:=RS.jh h
def RO (h:w.ownsRow lb 3 1 v l ((l.take l).map fun x=>.int .i64 (nQ x))) (a:l.all isNum=true):qS lb w v (yV l):=by rw[gh] at h;rw[uw a];unfold qS;rw[fm,kK];exact h
def NM (l:List (List UInt8)) (v:Value) (w:World) (K:l.length<=1000) (i: ∀x∈l,x.length<=1000000) (z:kX w v l):
  Calls prog 154 #[v,.func (.func 152) #[] #[]] w fun e w'=> ∃u,e=.returned (.tuple #[u,.bool (l.all isNum)])/\qS w w' u (yV l)/\Below w w w':=by
 obtain⟨A,c,rfl,h1,h2,y⟩:=z.open_;obtain⟨R,t,B,C,D⟩:=info_parts QG;obtain⟨S,W⟩:=Zb y i;have h:R.bytes*l.length<=281474976710656:=by rw[D];omega
 have r:l.length<=maxLen:=by simp only[maxLen];omega
 clear y z i;go_enter func154,ntmps154;go_wp2_with (at_make;refine wpList_make_own _ rfl _ _ 26 rfl w 3 R _ 1 underlying26 t B C _ _ _ l rfl rfl rfl h r lE ?_;intro w1 g d);clear h r B C D t;have f:Below w w w1:=bF.grown d lE (fun k E=>by cases E);have p:=zH g;clear g d;go_loopw [6,16] (fun Y O wr=> ∃k:Nat,k<=l/\O=.int .i64 k/\Hid ((l.take k).all isNum=true)/\Hid (wr.ownsRow w 3 1 Y k ((l.take k).map fun x=>.int .i64 (nQ x)))/\Below w w wr) (fun _ O _=>l.length-(intOf O).toNat)
 case atStart=>exact⟨0,eC _,rfl,rfl,p,f⟩
 case round=>
  clear p f;obtain⟨k,E,rfl,P,Q,a⟩:=hrel;by_cases L:k<l
  ·obtain⟨x,F⟩:=ec L;obtain⟨b,o,rfl,hb,s⟩:=S k x F;have hc:wr.cell? (pA b (o+k))=some (.string ⟨x.toArray⟩):=a7 a lE s;obtain⟨H,q⟩:=Zb F (W x (a8 F));clear s F;by_cases m:isNum x=true
   ·obtain⟨G,U,T⟩:=Zc m (xg P H m) (Ec (fun x=>Value.int .i64 (nQ x)) H);have N:=Q.out;have J:k<=1000000000:=oG;have j:=a.size;clear m;go_wp2_with fail;refine(yU x _ q).mono ?_;rintro e Z ⟨rfl,rfl⟩;rw[G.out];go_wp2_with (at_builtin;refine kD _ rfl (.tmp 28) (.tmp 30) 26 rfl w 3 _ 1 8 underlying26 QG rfl dE dE _ _ _ N rfl [(nQ x)] _ rfl rfl rfl J j ?_;intro v5 w5 M I X);go_roundw
    case rel=>exact⟨k+1,oG,by go_num,U,by rw[T.out];exact M,a.trans I⟩
    case measure=>exact mI
   ·have G:=zH (show isNum x=false by simpa using m);have n:Hid (l.all isNum=false):=by show _=_;rw[nV];exact⟨x,a8 H,m⟩
    clear m;go_wp2_with fail;refine(yU x _ q).mono ?_;rintro e Z ⟨rfl,rfl⟩;rw[G.out];go_wp2
    go_ret2
    exact⟨.slice none 0 0,Jf n.symm,by rw[RM n.out];exact gL _ _ _ _,a⟩
  ·obtain rfl:k=l.length:=oG;have n:Hid (l.all isNum=true):=by have:=P.out;rw[gh] at this;exact this
   have V:=zH (RO Q n);go_wp2
   go_ret2
   exact⟨_,Jf n.symm,V,a⟩
def uN (l:List (List UInt8)) (v:Value) (w:World) (K:l.length<=1000) (i: ∀x∈l,x.length<=1000000) (z:kX w v l):
  Calls prog 119 #[v] w fun e w'=> ∃u,e=.returned (.tuple #[u,.bool (l.all isNum)])/\qS w w' u (yV l)/\Below w w w':=by
 have b:=zH (NM l v w K i z);clear K i z;go_enter func119,ntmps119;go_wp2_with fail;refine b.mono ?_;rintro e c ⟨u,rfl,a,h⟩;go_wp2
 go_ret2
 exact⟨u,rfl,a,h⟩
end
section
open Go.RowKit jm uf
variable {L:List kW} {R g:Nat} {a w':World} {c:Value} {st:Rd} {t:TypeId}
def qq (a:World) (R:Nat) (c:Value) (L:List kW) (w:World) (st:Rd):Prop:=
 ∃(k:Nat) (d dv:Value),k<=L/\L.drop k=st.rest/\
  fc w R 132 [c,k,st.x.days,st.x.mm,st.x.cap,st.x.len,d,dv,st.count,.bool st.odd]/\
  iJ (R+1) 47 80 w d st.x.eB/\OwnRows (R+1) 26 3 w dv st.x.gn/\Below R a w
def qq.below (h:qq a R c L w st) (e:Below w w w'):qq a R c L w' st:=by obtain⟨k,d,dv,b,i,f,j,l,g⟩:=h;exact⟨k,d,dv,b,i,f.below e f.lt,j.below e lE,l.below e lE,g.trans (e.mono (pF f.lt))⟩
def qq.lt (h:qq a R c L w st):R<w.heap.size:=by obtain⟨k,d,dv,b,i,f,j,l,g⟩:=h;exact f.lt
def qq.from_ (h:qq a R c L w st):Below R a w:=by obtain⟨k,d,dv,b,i,f,j,l,g⟩:=h;exact g
def fc.wu {a b d e f i j k l:Value} (h:fc w g t [a,b,c,d,e,f,i,j,k,l]):
  w.cell? g=some a/\w.cell? (pA g 1)=some b/\w.cell? (pA g 2)=some c/\w.cell? (pA g 3)=some d/\w.cell? (pA g 4)=some e/\w.cell? (pA g 5)=some f/\w.cell? (pA g 6)=some i/\w.cell? (pA g 7)=some j/\w.cell? (pA g 8)=some k/\w.cell? (pA g 9)=some l:=
 ⟨h.cell 0,h.cell 1,h.cell 2,h.cell 3,h.cell 4,h.cell 5,h.cell 6,h.cell 7,h.cell 8,h.cell 9⟩
def fc.Qt {c:List Value} (h:fc w g t c): ∀i,w.frozen? (pA g i)=false:=fun i=>h.frozen i
def VY (o:Obj):Prop:= ∀c e k,o=.cells c e k->e=36
def kz (R:Nat) (w w':World):Prop:= ∀g o,g≠R->VY o->w.heap[g]? =some o->w'.heap[g]? =some o
def kz.refl (R:Nat) (w:World):kz R w w:=fun _ _ _ _ h=>h
def kz.trans {b c:World} (h:kz R a b) (i:kz R b c):kz R a c:=fun g o d f e=>i g o d f (h g o d f e)
def kz.below (h:kz R a w) (e:Below w w w'):kz R a w':=fun g o d f j=>by have b:=h g o d f j;rw[e.block g (aah.1 b).1];exact b
def kz.keep {e:TypeId} {base:Nat} (h:kz R a w) (m:kQ e base w w') (l:e≠36):kz R a w':=fun g o d f j=>by have b:=h g o d f j;rw[m.block g (aah.1 b).1 (.inr fun c k i=>l (f c e k (fg (b.symm.trans i))))];exact b
def kz.set (h:kz R a w) (i:Nat) (v:Value):kz R a (w.setCell (pA R i) v):=fun g o d f j=>by have b:=h g o d f j;simp only[World.setCell];rw[jc];rw[if_neg (show¬R=g from fun e=>d e.symm)];exact b
end
section
open Go.Proofs.Tryz
open Go.RowKit ue
def N8 (v:Value) (l:List (List UInt8)) (b:UInt8) (w:World) (d:kX w v l) (B:l.length<=1000000) (g:(jw b l).length<=100000000000000):
  Calls prog 144 #[v,.string ⟨#[b]⟩] w fun e w'=>e=.returned (kI (jw b l))/\Below w w w':=by
 obtain⟨A,c,rfl,m,u,z,n⟩:=d;by_cases k:0<l.length
 ·obtain⟨i,o,rfl,p,q⟩:=n k;have a:(l.map fun x=>(⟨x.toArray⟩:ByteArray)).map (·.data.toList)=l:=by rw[kK];exact(oI fun x _=>by simp).trans (Nl l)
  have f:Lib.join ((l.map fun x=>(⟨x.toArray⟩:ByteArray)).map (·.data.toList)) (⟨#[b]⟩:ByteArray).data.toList=jw b l:=by rw[a];exact CW b l
  have:=strings_Join i o c (l.map fun x=>(⟨x.toArray⟩:ByteArray)) ⟨#[b]⟩ w (fun j x h=>by rw[fh,mP] at h;obtain⟨y,t,rfl⟩:=h;exact q j _ (by rw[fh,t];rfl)) p sO (by simpa using m) (by rw[f];omega);rw[fm,f] at this;exact this
 ·obtain rfl:l=[]:=gj oG;exact(strings_Join_none A c ⟨#[b]⟩ w).mono fun e w' ⟨r,s⟩=>⟨r,by rw[s];exact bS _ _⟩
def QR (l:List (List UInt8)) (v:Value) (w:World) (i:kX w v l) (d:l.length<=1000) (j: ∀x∈l,x.length<=1000):
  Calls prog 94 #[v] w fun e w'=>e=.returned (kI (kx l))/\Below w w w':=by
 have c:=D0 32 1000 l j;have b:l.length*(1000+1)<=1000*1001:=kg d lE;have g:=zH (N8 v l 32 w i oG oG);have f:(jw 32 l).length<=100000000:=oG;have h:Hid (kx l=jw 32 l++[10]):=rfl;clear i d j c b;generalize jw 32 l=J at g f h;go_enter func94,ntmps94;go_wp2_with fail;refine g.mono ?_;rintro e k ⟨rfl,a⟩;unfold kI;go_wp2;go_ret;rw[h.out];exact⟨congrArg Ending.returned (vA J [10]),a⟩
def MB (s a:ByteArray) (m:Int) (w:World) (d:s.size<4294967281) (b:w.cell? (pB 0)=some m):
  Calls prog 111 #[.string s,.string a] w fun e w'=>e=.returned (.tuple #[.string ⟨(Lib.cut s.data.toList a.data.toList).1.toArray⟩,.string ⟨(Lib.cut s.data.toList a.data.toList).2.1.toArray⟩,.bool (Lib.cut s.data.toList a.data.toList).2.2])/\ ∃n,w'=w.drewN n:=
 strings_Cut s a m w d b
def LV (c:UInt8) (s:ByteArray):(Lib.splitB ⟨#[c]⟩ 0 (Lib.countB s ⟨#[c]⟩) s).map Value.string=(pieces c s.data.toList).map kI:=by rw[<-xr,kK];refine oI fun x _=>?_;show Value.string x=kI x.data.toList;unfold kI;rw[mk_data]
def Lx (c:UInt8) (s:ByteArray):(pieces c s.data.toList).length=Lib.countB s ⟨#[c]⟩+1:=by rw[<-xr,fm,Lib.splitB_all ⟨#[c]⟩ (ij 1) 0 _ s rfl]
def OG (s:ByteArray) (c:UInt8) (m:Int) (w:World) (d:s.size<4294967281) (b:w.cell? (pB 0)=some m):
  Calls prog 112 #[.string s,.string ⟨#[c]⟩] w fun e w'=>e=.returned (.slice w (pieces c s.data.toList).length (pieces c s.data.toList).length)/\w'=w.alloc (cB 9 ((pieces c s.data.toList).map kI)):=by
 refine(strings_Split s ⟨#[c]⟩ m w d b (ij 1)).mono fun e w' ⟨a,f⟩=>⟨?_,?_⟩
 ·rw[a,Lx]
 ·rw[f,LV]
def Oo (l:List (List UInt8)) (v:Value) (w:World) (D:kX w v l) (R:l.length<=1000) (E: ∀x∈l,x.length<=1000):
  Calls prog 33 #[v] w fun e w'=>e=.returned (kI (kx l))/\w'=w:=by
 obtain⟨A,c,rfl,N,O,m⟩:=D.open_;obtain⟨G,H⟩:=Zb m E;clear m D E;go_enter func33,ntmps33;go_wp2_with fail
 go_loop [3,4] (fun M B=> ∃(k:Nat) (s:ByteArray),k<=l/\B=.int .i64 k/\M=.string s/\s.size<=k*1001/\Hid (s.data.toList=jw 32 (l.take k))) (fun _ B=>l.length-(intOf B).toNat)
 case atStart=>exact⟨0,_,eC _,rfl,rfl,eC _,rfl⟩
 case round=>
  obtain⟨k,s,Q,rfl,rfl,K,q⟩:=hrel;by_cases u:k<l
  ·obtain⟨x,n⟩:=ec u;obtain⟨b,o,rfl,P,j⟩:=G k x n;have z:=H x (a8 n);obtain⟨t,p⟩:=nR ((⟨x.toArray⟩:ByteArray):ByteArray);rw[p] at j;have f:t.data.toList=x:=by rw[<-p]
   have L:t.size<=1000:=by rw[<-kC,f];exact z
   have i:l.take (k+1)=l.take k++[x]:=by rw[gk,n];rfl
   have d:=acu 32 (l.take k) x;rw[<-i] at d;have g:(l.take k).length=k:=by rw[fB];omega
   by_cases C:k=0
   ·subst C;have r:Hid ((s++t).data.toList=jw 32 (l.take (0+1))):=by show _=_;rw[gC,q.out,d,f];rfl
    rw[eW] at j;have h:(s++t).size<=(0+1)*1001:=by rw[nA];omega
    clear i d g n p f;go_wp2
    go_round
    case rel=>exact⟨0+1,_,oG,by go_num,rfl,h,r⟩
    case measure=>exact mI
   ·have r:Hid (((s++⟨#[32]⟩)++t).data.toList=jw 32 (l.take (k+1))):=by
     show _=_;have I:(l.take k).isEmpty=false:=by
      cases e:l.take k with
      |nil=>rw[e] at g;simp at g;omega
      |cons a t=>rfl
     rw[gC,gC,q.out,d,f,I];rfl
    have h:((s++⟨#[32]⟩)++t).size<=(k+1)*1001:=by rw[nA,nA];have:(⟨#[32]⟩:ByteArray).size=1:=rfl;omega
    have J:(0:Int)<(k:Int):=oG;have y:s.size<=10000000:=oG;clear i d g n p f C;go_wp2
    go_round
    case rel=>exact⟨k+1,_,oG,by go_num,rfl,h,r⟩
    case measure=>exact mI
  ·obtain rfl:k=l.length:=oG;have F:Hid (kI (kx l)=.string (s++⟨#[10]⟩)):=by have:=q.out;rw[gh] at this;show kI (jw 32 l++[10])=_;rw[<-this,V5 (s++⟨#[10]⟩) _ (gC _ _)];rfl
   have y:s.size<=10000000:=oG;go_wp2;go_ret;exact⟨congrArg Ending.returned F.symm,rfl⟩
end
end Go.Proofs.YtgimnjldndkalaaGreatDoor
