/- Of the proof of TopCosts: The walks of a tour's length, of a day's cost and stops. -/
import Derived.Test.YtgimnjldndkalaaGreatDoorF16
import Derived.Test.YtgimnjldndkalaaGreatDoorF17
set_option linter.all false
set_option maxRecDepth 100000
namespace Go.Proofs.YtgimnjldndkalaaGreatDoor
section
open Go.Proofs.Tryz
open Go.RowKit jm ko kN
def iz.agg {w:World} {v:Value} {x:fS} (h:iz w v x): ∃A1 c1 A2 c2,v=.agg #[x.days,x.mm,x.cap,x.len,.slice A1 x.eB c1,.slice A2 x.gn c2]:=by obtain⟨b,c,a,⟨A1,c1,o,-⟩,⟨A2,c2,p,-⟩⟩:=h;subst o p;exact⟨A1,c1,A2,c2,a⟩
def qE (u s:Value) (x:fS) (t:Tr) (w:World) (m:iz w u x) (r:ga x) (l:RL 2 iH w s t) (q:t.length<=1000000) (h:jK x.eB t):
  Calls prog 143 #[u,.agg #[s]] w fun e w'=>e=.returned (Mc x.gn (t.map Prod.fst))/\Below w w w':=by
 obtain⟨A1,c1,A2,c2,rfl⟩:=m.agg;obtain⟨A,c,rfl,o,p,-⟩:=fQ.open_ l;obtain⟨B,z,n,y⟩:=Zd m l r h;clear m l r h;go_enter func143,ntmps143;go_wp2_with fail;have i:=(fc.new w 25 [x.days,x.mm,x.cap,x.len,.slice A1 x.eB c1,.slice A2 x.gn c2]).alloc (cB 44 [.slice A t c]);have j:=fc.fW (w.alloc (cB 25 [x.days,x.mm,x.cap,x.len,.slice A1 x.eB c1,.slice A2 x.gn c2])) 44 [.slice A t c] (g:=w.heap.size+1) sI;have a:Below w w ((w.alloc (cB 25 [x.days,x.mm,x.cap,x.len,.slice A1 x.eB c1,.slice A2 x.gn c2])).alloc (cB 44 [.slice A t c])):=bL (bL bF _) _;revert i j a;generalize (w.alloc (cB 25 [x.days,x.mm,x.cap,x.len,.slice A1 x.eB c1,.slice A2 x.gn c2])).alloc (cB 44 [.slice A t c])=w1;intro i j a;have J:=i.lt;have L:=j.lt;obtain⟨C,D,E,F,G,H⟩:=i.jI;have I:=j.c 0;refine rB [] fun hS=>?_;refine kL [0,1] ?_;refine tO 2 fun K f=>?_;go_simp;refine(rD _ t _ (fQ.below z (a.trans (hS.mono a.size)) lE) q).mono ?_;rintro e N ⟨M,rfl,v,b⟩;refine f _ _ (hS.trans (b.mono hS.size)) ?_;refine tO 3 fun K f=>?_;go_simp;refine(US _ _ x _ _ (B.out.below (a.trans ((hS.trans (b.mono hS.size)).mono a.size)) lE) v.reads n.out.V4 (by simpa using q) (y.out.eB (by have:=n.out.head;omega))).mono ?_;rintro e O ⟨rfl,k⟩;have d:=(hS.trans (b.mono hS.size)).trans (k.mono (eZ hS.size b.size));refine f _ _ (d) ?_;refine tO 4 fun K f=>?_;go_simp;refine f _ _ (d) ?_;refine tD ?_;go_wp2_with fail;go_ret;exact⟨rfl,a.trans (d.mono a.size)⟩
theorem Ri{p:Prop}(h:p:=by go_simp;refine f _ _ (b) ?_;refine tD ?_;go_wp2_with fail;go_ret;exact⟨_,rfl,a.trans (b.mono a.size)⟩):p:=h
abbrev SI (x:fS) (A1:Option Addr) (c1:Nat) (A2:Option Addr) (c2:Nat) (tv:Value):List Value:=(yX x A1 c1 A2 c2 [tv])
def VZ (n:Nat) (t:Tr):Prop:=jK n t/\t≠[]
inductive Nt (n:Nat) (t:Tr) (w:World) (e:Ending) (w':World):Prop
 |mk (b:Bool) (he:e=.returned b) (h:b=true->VZ n t) (hb:Below w w w')
def GZ (x:fS) (A1:Option Addr) (c1:Nat) (A2:Option Addr) (c2:Nat) (j:Value) (t:Tr) (w:World) (g:RL 2 iH w j t):
  Calls prog 219 #[.agg #[x.days,x.mm,x.cap,x.len,.slice A1 x.eB c1,.slice A2 x.gn c2,j]] w (Nt x.eB t w):=by
 obtain⟨A,c,rfl,P,Q,C⟩:=fQ.open_ g;have F:=zH C;clear g C;go_enter func219,ntmps219;go_wp2_with fail;go_loopw [9] (fun y wr=> ∃i:Nat,i<=t/\y=.int .i64 i/\Hid (jK x.eB (t.take i))/\fc wr w 253 (SI x A1 c1 A2 c2 (.slice A t c))/\Below w w wr) (fun y _=>t.length-(intOf y).toNat)
 case atStart=>exact⟨0,eC _,rfl,(jK.jL _),fc.new w _ _,bL bF _⟩
 case round=>
  obtain⟨i,S,rfl,f,d,a⟩:=hrel;have J:=d.lt;have H:=d.c 4;have B:=d.c 6;by_cases s:i<t
  ·obtain⟨⟨z,q⟩,v⟩:=ec s;obtain⟨b,o,rfl,R,D,E⟩:=F i _ v;replace D:=a7 a lE D;replace E:=a7 a lE E;have l:Hid (xd x.eB.length (z,q)->jK x.eB.length (t.take (i+1))):=zH (fun h=>by rw[iC v];exact f.append (jK.one h));clear v;by_cases L:z<0
   ·go_wp2_with fail;go_ret
    exact⟨_,rfl,nF,a.alloc a.size _⟩
   ·have m:0<=z:=oG;by_cases M:(x.eB.length:Int)<=z
    ·go_wp2_with fail;go_ret
     exact⟨_,rfl,nF,a.alloc a.size _⟩
    ·have n:z<(x.eB.length:Int):=oG;by_cases N:q<1
     ·go_wp2_with fail;go_ret
      exact⟨_,rfl,nF,a.alloc a.size _⟩
     ·have I:1<=q:=oG;by_cases O:2147483648<q
      ·go_wp2_with fail;go_ret
       exact⟨_,rfl,nF,a.alloc a.size _⟩
      ·have p:q<=2147483648:=oG;go_wp2_with fail;go_roundw
       case rel=>exact⟨i+1,oG,by go_num,(l ⟨⟨m,n⟩,by show 0<=q;omega,p⟩),d.alloc _,a.alloc a.size _⟩
       case measure=>exact mI
  ·obtain rfl:i=t.length:=oG;have r:=f.out;rw[gh] at r;have k:=zH r;clear r;by_cases u:t.length=0
   ·go_wp2_with fail;go_ret
    exact⟨_,rfl,(fun h=>by simp at h),a⟩
   ·have K:0<t.length:=oG;have G:Hid (t≠[]):=zH (fun e=>u (by rw[e];rfl));go_wp2_with fail;go_ret;exact⟨_,rfl,fun _=>⟨k,G⟩,a⟩
def GX (x:fS) (A1:Option Addr) (c1:Nat) (A2:Option Addr) (c2:Nat) (j:Value) (t:Tr) (w:World) (g:RL 2 iH w j t):
  Calls prog 221 #[.agg #[x.days,x.mm,x.cap,x.len,.slice A1 x.eB c1,.slice A2 x.gn c2,j]] w (ug w):=by
 have k:=zH g;obtain⟨A,c,rfl,-⟩:=fQ.open_ g;clear g;go_enter func221,ntmps221;go_wp2_with fail;have d:=fc.new w 253 (SI x A1 c1 A2 c2 (.slice A t c));have a:=bL (bS w w) (cB 253 (yX x A1 c1 A2 c2 [.slice A t c]));revert d a;generalize (w.alloc (cB 253 (yX x A1 c1 A2 c2 [.slice A t c])))=w1;intro d a;have r:=d.lt;have q:=d.c 2;have B:=d.c 6;refine rB [] fun hS=>?_;refine kL [0,1,3,4,5] ?_;refine tO 2 fun K f=>?_;go_simp;refine(C4 _ t _ (fQ.below k (a.trans (hS.mono a.size)) lE)).mono ?_;rintro e s ⟨z,rfl,h⟩;have b:=hS.trans (h.mono hS.size);refine f _ _ (b) ?_;refine tO 6 fun K f=>?_;go_simp;refine f _ _ (b) ?_;refine tO 7 fun K f=>?_;exact Ri
def GY (x:fS) (A1:Option Addr) (c1:Nat) (A2:Option Addr) (c2:Nat) (j:Value) (t:Tr) (w:World) (g:RL 2 iH w j t) (m:iz w (.agg #[x.days,x.mm,x.cap,x.len,.slice A1 x.eB c1,.slice A2 x.gn c2]) x) (l:ga x) (u:t.length<=1000000) (i:jK x.eB t):
  Calls prog 222 #[.agg #[x.days,x.mm,x.cap,x.len,.slice A1 x.eB c1,.slice A2 x.gn c2,j]] w (ug w):=by
 obtain⟨k,p,n,o⟩:=Zd g m l i;obtain⟨A,c,rfl,-⟩:=fQ.open_ g;clear g m l i;go_enter func222,ntmps222;go_wp2_with fail;have d:=fc.new w 253 (SI x A1 c1 A2 c2 (.slice A t c));have a:=bL (bS w w) (cB 253 (yX x A1 c1 A2 c2 [.slice A t c]));revert d a;generalize (w.alloc (cB 253 (yX x A1 c1 A2 c2 [.slice A t c])))=w1;intro d a;have r:=d.lt;have v:=d.c 0;have y:=d.c 1;have q:=d.c 2;have C:=d.c 3;have H:=d.c 4;have D:=d.c 5;have B:=d.c 6;refine rB [] fun hS=>?_;refine kL [0,1,2,3,5,6,7] ?_;refine tO 4 fun K f=>?_;go_simp;refine(qE _ _ x t _ (p.below (a.trans (hS.mono a.size)) lE) n (fQ.below k (a.trans (hS.mono a.size)) lE) u o).mono ?_;rintro e s ⟨rfl,h⟩;have b:=hS.trans (h.mono hS.size);generalize Mc x.gn (t.map Prod.fst)=z;refine f _ _ (b) ?_;refine tO 8 fun K f=>?_;go_simp;refine f _ _ (b) ?_;refine tO 9 fun K f=>?_;exact Ri
def uA (x:fS) (t:Tr):Int:=Mc x.gn (t.map Prod.fst)
def xI (I B:Value) (x:fS) (d:Dy) (K:Nat) (w:World) (F:iz w I x) (H:ga x) (p:RL 1 jf w B d) (M:jS x.eB K d) (U:K<=1000000):
  Calls prog 92 #[I,.agg #[B]] w fun e w'=>e=.returned (me (d.map (uA x)))/\Below w w w':=by
 obtain⟨A1,c1,A2,c2,rfl⟩:=F.agg;obtain⟨A,c,rfl,O,P,C⟩:=iK.open_ p;obtain⟨S,J,h,L⟩:=Zd F C H M;clear F p H M C;go_enter func92,ntmps92;go_wp2_with fail;go_loopw [5,11] (fun V m wr=> ∃i:Nat,i<=d/\m=.int .i64 i/\V=.int .i64 (me ((d.map (uA x)).take i))/\
  fc wr w 25 [x.days,x.mm,x.cap,x.len,.slice A1 x.eB c1,.slice A2 x.gn c2]/\Below w w wr) (fun _ m _=>d.length-(intOf m).toNat)
 case atStart=>exact⟨0,eC _,rfl,rfl,(fc.new w _ _).alloc _,bL (bL bF _) _⟩
 case round=>
  obtain⟨i,R,rfl,rfl,l,a⟩:=hrel;have E:=l.lt;by_cases k:i<d
  ·obtain⟨t,f⟩:=ec k;obtain⟨b,o,rfl,Q,W,g,y⟩:=J i _ f;obtain⟨r,G⟩:=L.get f;obtain⟨s,c3,rfl,-⟩:=fQ.open_ g;replace y:=a7 a lE y;have u:Hid (me ((d.map (uA x)).take (i+1))=wrap64 (me ((d.map (uA x)).take i)+uA x t)):=zH (wQ (by rw[fh,f];rfl));obtain⟨v,N⟩:=Zb g r;obtain⟨X,Y,Z,d3,d4,d5⟩:=l.jI;clear f g r;generalize me ((d.map (uA x)).take i)=z at*;go_wp2_with fail;have j:=bL (bS wr wr) (cB 44 [.slice s t c3]);refine(qE _ _ x t _ (S.below (a.trans (j.mono a.size)) lE) h (fQ.below v (a.trans (j.mono a.size)) lE) oG N).mono ?_;rintro e w2 ⟨rfl,D⟩;have n:=j.trans (D.mono j.size);rw[show Mc x.gn (t.map Prod.fst)=uA x t from rfl];generalize uA x t=q at*;go_wp2_with fail;go_roundw
   case rel=>exact⟨i+1,oG,by go_num,by rw[u.out],l.below n E,a.trans (n.mono a.size)⟩
   case measure=>exact mI
  ·obtain rfl:i=d.length:=oG;rw[fj sI];obtain⟨z,f⟩:=nR (me (d.map (uA x)));rw[f];have T:=zH f;clear f;go_wp2_with fail;go_ret;exact⟨by rw[T.out];rfl,a⟩
def Bw (B:Value) (d:Dy) (K:Nat) (w:World) (p:RL 1 jf w B d) (M:yw d<=K) (U:K<=1000000):
  Calls prog 137 #[.agg #[B]] w fun e w'=> ∃F,e=.returned F/\OS w w' F d.flatten/\Below w w w':=by
 obtain⟨A,c,rfl,O,P,C⟩:=iK.open_ p;have J:=zH C;clear p C;go_enter func137,ntmps137;go_wp2_with fail;go_loopw [3,9] (fun F m wr=> ∃i:Nat,i<=d/\m=.int .i64 i/\Hid (OS w wr F (d.take i).flatten)/\Below w w wr) (fun _ m _=>d.length-(intOf m).toNat)
 case atStart=>exact⟨0,eC _,rfl,(OS.jL _ _),bL bF _⟩
 case round=>
  obtain⟨i,R,rfl,h,a⟩:=hrel;by_cases k:i<d
  ·obtain⟨t,f⟩:=ec k;obtain⟨b,o,rfl,Q,W,g,y⟩:=J i _ f;obtain⟨s,c3,rfl,-⟩:=fQ.open_ g;replace y:=a7 a lE y;have N:=a.size;have l:=vB (d.take (i+1));have n:=uB d (i+1);have u:Hid ((d.take (i+1)).flatten=(d.take i).flatten++t):=zH (by rw[iC f,aat];simp);have r:(d.take i).flatten.length+t.length<=1000000000:=by rw[u.out,fa] at l;omega
   have v:=zH (fQ.rs (fQ.below g (a.alloc a.size (cB 44 [.slice s t c3])) lE));obtain⟨L,I⟩:=nR ((d.take i).flatten);rw[I] at h u r;clear f g I l n;obtain⟨G,H,rfl,-⟩:=h.slice;go_wp2_with (at_builtin;refine nL _ rfl (.tmp 13) (.tmp 15) 42 rfl w 84 _ 2 16 underlying42 nU rfl dE dE _ L _ (h.alloc _) rfl s t c3 (t.flatMap gV) rfl v (mK t) r sO ?_;intro q S E D;have j:=D.below sO);go_roundw
   case rel=>refine⟨i+1,oG,by go_num,zH ?_,(a.alloc a.size _).trans j⟩;rw[u.out];unfold OS;rw[fa,fU];exact E
   case measure=>exact mI
  ·obtain rfl:i=d.length:=oG;have x:=h.out;rw[gh] at x;obtain⟨G,H,rfl,-⟩:=x.slice;go_wp2_with fail;go_ret;exact⟨_,rfl,x,a⟩
def AY (F:Value) (l:Tr) (w:World) (M:RL 2 iH w F l) (hn:l.length<=1000000):
  Calls prog 299 #[F] w fun e w'=> ∃B,e=.returned (.agg #[B])/\OT w w' B (l.map fun s=>[s])/\Below w w w':=by
 obtain⟨A,c,rfl,O,P,C⟩:=fQ.open_ M;have J:=zH C;clear M C;go_enter func299,ntmps299;go_wp2_with fail;go_loopw [8] (fun m wr=> ∃(i:Nat) (K:Value),i<=l/\m=.int .i64 i/\fc wr w 39 [()]/\fc wr (w+1) 39 [K]/\Hid (OT (w+1+1) wr K ((l.map fun s=>[s]).take i))/\Below w w wr) (fun m _=>l.length-(intOf m).toNat)
 case atStart=>exact⟨0,_,eC _,rfl,(fc.new w _ _).alloc _,fc.fW _ _ _ sI,(OT.jL _ _),bL (bL bF _) _⟩
 case round=>
  obtain⟨i,K,R,rfl,d,n,h,a⟩:=hrel;have z1:=d.lt;have z2:=n.lt;by_cases k:i<l
  ·obtain⟨⟨z,q⟩,f⟩:=ec k;obtain⟨b,o,rfl,Q,T,U⟩:=J i _ f;replace T:=a7 a lE T;replace U:=a7 a lE U;have N:=a.size;have u:Hid ((l.map fun s=>[s]).take (i+1)=(l.map fun s=>[s]).take i++[[(z,q)]]):=zH (iC (by rw[fh,f];rfl));obtain⟨L,I⟩:=nR ((l.map fun s=>[s]).take i);rw[I] at h u;have r:L.length<=1000000000:=by rw[<-I,fB];omega
   clear f I;obtain⟨G,H,rfl,-⟩:=h.slice;have c1:=n.c 0;have V:=fc.fW (wr.alloc (cB 84 [z,q])) 84 [z,q] (g:=wr.heap.size+1) sI;have W:OS (w+1+1) ((wr.alloc (cB 84 [z,q])).alloc (cB 84 [z,q])) (.slice (pB (wr+1)) 1 1) [(z,q)]:=
    ⟨rfl,.inr ⟨wr.heap.size+1,1,#[z,q],rfl,oG,V,by simp,by simp[maxLen],rfl,rfl⟩⟩
   go_wp2_with (at_builtin;refine yA _ rfl (.tmp 13) (.tmp 17) rfl (w+1+1) _ L ((h.alloc _).alloc _) rfl _ [(z,q)] W rfl sI r sO ?_;intro g cap S E X Y D Z;have j:=D.below sO;have t:=((n.alloc _).alloc _).below j oG;have f1:=t.frozen 0;have c2:S.cell? (pB (w+1))=some (.slice G L H):=t.cell 0);go_roundw
   case rel=>
    refine⟨i+1,_,oG,by go_num,(((d.alloc _).alloc _).below j oG).kj (p:=pB (w+1)) dO _,t.gH 0 _,zH ?_,?_⟩
    ·rw[u.out];exact E.fG dO _
    ·exact(((a.alloc a.size _).alloc sO _).trans (j.mono oG)).setCell (p:=pB (w+1)) (iW _) _
   case measure=>exact mI
  ·obtain rfl:i=l.length:=oG;have x:=h.out;rw[fj sI] at x;have y:=x.slice;rw[fm] at y;obtain⟨G,H,rfl,-⟩:=y;have c1:=n.c 0;have c0:=d.c 0;have f0:=d.frozen 0;go_wp2;refine bodyPost_ret (v:=.agg #[.slice G l H]) (ia rfl _ _ w 39 [.slice G l H] _ rfl (d.gH 0 _) underlying39 rfl kR) rfl ⟨_,rfl,OT.mono (x.fG dO _) oG,?_⟩;exact a.setCell (p:=w) lE _
end
end Go.Proofs.YtgimnjldndkalaaGreatDoor
