/- Of the proof of TopGreat: The planner: its steps' state, and how it parses. -/
import Derived.Test.YtgimnjldndkalaaGreatDoorF45
import Derived.Test.YtgimnjldndkalaaGreatDoorF50
import Derived.Test.YtgimnjldndkalaaGreatDoorF35
import Derived.Test.YtgimnjldndkalaaGreatDoorF37
set_option linter.all false
set_option maxHeartbeats 8000000
set_option maxRecDepth 100000
namespace Go.Proofs.YtgimnjldndkalaaGreatDoor
variable {G:List Nat} {w w':World}
section
open Go.Proofs.Tryz
open Go Go.RowKit ue jm uf ko kN
abbrev Xp (s:ByteArray) (a b c d:Int) (i0 i1 i2 i3 i4 i5:Value) (o bd co ho:Int) (dv pv:Value):List Value:=[.string s,a,b,c,d,i0,i1,i2,i3,i4,i5,o,bd,co,ho,dv,pv]
def ET (w:World) (g i:Nat) (v:Value):w.grownBy (w.setCell (pA g i) v) (some g):=
 ⟨rfl,rfl,rfl,by simp[World.setCell],fun b _ a=>heap_setCell_other w (pA g i) b v fun e=>a (by rw[e])⟩
structure wh (w0:World) (g:Nat) (cs:List Value) (w:World):Prop where
 gr:w0.grownBy w (some g)
 bl:fc w g 73 cs
section
variable {w0:World} {g:Nat} {cs:List Value}
def wh.trans (h:wh w0 g cs w) {a:List Value} (k:wh w g a w'):wh w0 g a w':=⟨h.gr.trans k.gr,k.bl⟩
def wh.put (h:wh w0 g cs w) (i:Nat) (v:Value):wh w0 g (cs.set i v) (w.setCell (pA g i) v):=⟨h.gr.trans (ET w g i v),h.bl.gH i v⟩
def wh.below (h:wh w0 g cs w) (n:Below w w w'):wh w0 g cs w':=⟨h.gr.trans (mY n _),h.bl.below n h.bl.lt⟩
def wh.rC (h:wh w0 g cs w) {G:List Nat} (a:jM G w0):jM G w:=fun b n=>by
 by_cases e:b=g
 ·subst e;exact⟨_,_,h.bl⟩
 ·obtain⟨t,cs,k⟩:=a b n;exact⟨t,cs,k.grown h.gr (by simpa using e)⟩
def wh.alloc (h:wh w0 g cs w) (o:Obj):wh w0 g cs (w.alloc o):=h.below (bF.alloc lE o)
end
abbrev zI:Value:=.int .i64 0
abbrev nS:Value:=.slice none 0 0
def I0 (g:Nat) (i:ByteArray) (m a b c d:Int) (w:World) (n:fc w g 73 (Xp i a b c d zI zI zI zI nS nS 0 0 0 0 nS nS))
  (q:i.size<=1000000) (A: ∀l∈uK i.data.toList,l.length<=1000) (C:w.cell? (pB 0)=some m):
  Calls prog 26 #[.pointer g] w fun e w'=>e=.returned (kU i.data.toList).2/\
   ((kU i.data.toList).2=0-> ∃A1 c1 A2 c2,wh w g (Xp i a b c d (kU i.data.toList).1.days (kU i.data.toList).1.mm (kU i.data.toList).1.cap (kU i.data.toList).1.len (.slice A1 (kU i.data.toList).1.eB.length c1) (.slice A2 (kU i.data.toList).1.gn.length c2) 0 0 0 0 nS nS) w'/\PX w w' (.agg (xC (kU i.data.toList).1 A1 c1 A2 c2).toArray) (kU i.data.toList).1)/\
   ((kU i.data.toList).2≠0-> ∃o,((kU i.data.toList).2=2->o=1)/\o<=2/\wh w g (Xp i a b c d zI zI zI zI nS nS o 0 0 0 nS nS) w'):=by
 obtain⟨p,E⟩:=Zb (Lv i m w q A C) (wh.mk (nG w (some g)) n);have c0:=n.c 0;have j:=n.lt;generalize kU i.data.toList=X at p|-
 obtain⟨x,z⟩:=X;dsimp only at p|-
 clear q A C n;go_enter func26,ntmps26;go_wp2_with fail;refine p.mono ?_;rintro e P ⟨v,rfl,u,t⟩;have y:=u.WB;obtain⟨A1,c1,A2,c2,rfl⟩:=u.reads.agg;have k:=zH (E.below t);have B:=k.bl.lt;have D:=zH (PX.of y);have f:=k.bl;have H:=f.iY;simp only[im,Nat.reduceAdd] at H;have J:=f.frozen 5;have K:=f.frozen 6;have L:=f.frozen 7;have M:=f.frozen 8;have N:=f.frozen 9;have F:=f.frozen 10;have G:=f.frozen 11;clear y u f;by_cases r:z=0
 ·subst r;go_wp2_with fail;go_ret;refine⟨rfl,A1,c1,A2,c2,?_,?_⟩
  ·exact((((((k.put 5 _).put 6 _).put 7 _).put 8 _).put 9 _).put 10 _).alloc _
  ·exact((((((D.put j 5 _).put j 6 _).put j 7 _).put j 8 _).put j 9 _).put j 10 _).alloc _
 ·have O:(z==0)=false:=by simp[r]
  by_cases s:z=2
  ·subst s;go_wp2_with fail;go_ret;exact⟨rfl,(k.put 11 (.int .i64 1)).alloc _⟩
  ·have I:(z==2)=false:=by simp[s]
   go_wp2_with fail;go_ret
   exact⟨rfl,fun h=>absurd h r,fun _=>⟨2,fun h=>absurd h s,by decide,(k.put 11 (.int .i64 2)).alloc _⟩⟩
end
section
open Go.Proofs.Tryz
open Go Go.RowKit ue jm uf ko kN
variable {A1 A2:Option Addr} {c1 c2:Nat} {x:fS}
abbrev Hc (s:ByteArray) (a b c d:Int) (x:fS) (A1:Option Addr) (c1:Nat) (A2:Option Addr) (c2:Nat) (o bd co ho:Int) (dv pv:Value):List Value:=
 Xp s a b c d x.days x.mm x.cap x.len (.slice A1 x.eB c1) (.slice A2 x.gn c2) o bd co ho dv pv
section
variable {x:fS} {dv:Value} {p:Pl}
theorem oJ.below (h:oJ x G w dv p) (f:jM G w) (a:Below w w w'):oJ x G w' dv p:=⟨h.rd.below f a,h.len,h.dy⟩
theorem oJ.put (h:oJ x G w dv p) (f:jM G w) {g:Nat} (B:g∈G) (i:Nat) (u:Value):oJ x G (w.setCell (pA g i) u) dv p:=⟨h.rd.put f B i u,h.len,h.dy⟩
theorem oJ.look (h:oJ x G w dv p) (hx:eV x) (f:jM G w):tj x.eB w dv p:=⟨h.rd.reads f,by have:=h.len;have:=hx.head;omega,fun d e=>(h.dy d e).1⟩
end
theorem oJ.of {c:kc} {a b:Int} (hx:iF x c a b) {q:List Int} (n:qn x.days c.size c.start q) {lb:Nat} {w:World} {dv:Value} (h:sl lb w dv (ep q)) (f: ∀g∈G,g<lb):oJ x G w dv (ep q):=
 ⟨(PlB.at (show PlB lb w w dv (ep q) from h) (fun k m _=>tt w fun l=>by have:=f k l;omega) (by rw[oK];exact lE)).reads,by rw[o5];exact n.len,fun d e=>by obtain⟨i,j⟩:=afV e;exact Ex n.bd hx.len j⟩
theorem aee {b:Option Addr} {c:Nat} {a:Option Addr} {d:Nat} (h:Value.agg (xC x A1 c1 A2 c2).toArray=.agg (xC x b c a d).toArray):A1=b/\c1=c/\A2=a/\c2=d:=by
 injection h with h
 have h:=congrArg Array.toList h;simp only[List.cons.injEq,Value.slice.injEq] at h;exact⟨h.2.2.2.2.1.1,h.2.2.2.2.1.2.2,h.2.2.2.2.2.1.1,h.2.2.2.2.2.1.2.2⟩
section
variable {x:fS} {cu:kc} {ua ub:Int} (hx:iF x cu ua ub)
include hx
theorem adZ (h b:Int) (w:World) (j:iz w (.agg (xC x A1 c1 A2 c2).toArray) x):
  Calls prog 50 #[.agg (xC x A1 c1 A2 c2).toArray,h,b] w fun e w'=> ∃u,e=.returned (.tuple #[u,(pe x cu ua ub)])/\Below w w w':=by
 obtain⟨g,o,c,a,d,r,p,v,c0,e,l⟩:=hx.mem j;obtain⟨rfl,rfl,rfl,rfl⟩:=aee e;exact adY hx g o _ _ _ r p v c0 h b w l j
theorem afe (h y u z:Int) (w:World) (j:iz w (.agg (xC x A1 c1 A2 c2).toArray) x) (s:u<=9223372036854775807) (t:y<=1000000) (f: ∀b∈G,b<w.heap.size):
  Calls prog 51 #[.agg (xC x A1 c1 A2 c2).toArray,.agg #[h,y,u,z]] w fun e w'=>
   ∃A m k q,e=.returned (.tuple #[.agg #[.slice A m k],Zo])/\qn x.days cu.size cu.start q/\oJ x G w' (.slice A m k) (ep q)/\Below w w w':=by
 obtain⟨g,o,c,a,d,r,p,v,c0,e,l⟩:=hx.mem j;obtain⟨rfl,rfl,rfl,rfl⟩:=aee e;refine(aeV hx g o _ _ _ r p v c0 h y u z w l j s t).mono ?_;rintro e w' ⟨A,m,k,q,rfl,n,B,i⟩;exact⟨A,m,k,q,rfl,n,oJ.of hx n B f,i⟩
end
section
variable {x:fS} {cu:kc} {ua ub:Int} (hx:iF x cu ua ub) (g:Nat) (s:ByteArray) (a b c d:Int) (A1:Option Addr) (c1:Nat) (A2:Option Addr) (c2:Nat)
include hx
theorem Hz (w:World) (i:fc w g 73 (Hc s a b c d x A1 c1 A2 c2 0 0 0 0 nS nS)) {n:Nat} (o:g<n) (z:PX n w (.agg (xC x A1 c1 A2 c2).toArray) x):
  Calls prog 27 #[.pointer g] w fun e w'=>e=.returned Zo/\wh w g (Hc s a b c d x A1 c1 A2 c2 3 (pe x cu ua ub) 0 0 nS nS) w'/\PX n w' (.agg (xC x A1 c1 A2 c2).toArray) x:=by
 obtain⟨p,k⟩:=Zb (wh.mk (nG w (some g)) i) z;have y:=zH fun W j=>adZ hx (A1:=A1) (c1:=c1) (A2:=A2) (c2:=c2) a d W j;obtain⟨V,A⟩:=nR (pe x cu ua ub);rw[A] at y|-
 clear A;have B:=i.lt;have c11:=i.c 11;have t:=i.frozen 11;clear i z;go_enter func27,ntmps27;go_upto_region 2 with fail
 obtain⟨f,h⟩:=Zb (p.put 11 (.int .i64 3)) (k.put o 11 (.int .i64 3));revert f h;generalize w.setCell (pA g 11) (.int .i64 3)=w1;intro f h;clear p k c11 t;obtain⟨p,k⟩:=Zb (f.below (bF.drew)) (h.below (bF.drew));refine rG (fun wS=>fc wS g 73 (Hc s a b c d x A1 c1 A2 c2 3 0 0 0 nS nS)) [22] (f.bl) fun hS=>?_;refine kL [0,1,2,3,4,5,6,7,8,9,10,11,12,13,14] ?_;refine tO 15 fun K v=>?_;go_simp;refine(y _ k.reads).mono ?_;rintro e D ⟨u,rfl,m⟩;obtain⟨l,q⟩:=Zb (p.below m) (k.below m);have hS:=l.bl;have r:=hS.cell 12;have C:=hS.frozen 12;simp only[fI,fJ,df,fK] at r;refine v _ _ (hS) ?_;refine kL [16,17,18,19,20,21] ?_;refine tL 22 fun K v=>?_;go_simp;refine v _ _ ?_;refine tD ?_;go_wp2_with fail;go_ret;exact⟨rfl,l.put 12 V,q.put o 12 V⟩
end
end
section
open Go.Proofs.Tryz
open Go Go.RowKit ue jm uf ko kN
theorem wh.kj {a w:World} {g:Nat} {b:List Value} (h:wh a g b w) {k:Nat} (c:g≠k) (d:a.heap.size<=k) (u:Value):wh a g b (w.setCell k u):=
 ⟨h.gr.andThen (ET w k 0 u) (fun j e=>by cases e;exact .inl d),h.bl.kj c u⟩
variable {x:fS} {cu:kc} {ua ub:Int} (hx:iF x cu ua ub) (g:Nat) (s:ByteArray) (a b c d:Int) (A1:Option Addr) (c1:Nat) (A2:Option Addr) (c2:Nat)
include hx
theorem KA (S:Int) (w:World) (U:fc w g 73 (Hc s a b c d x A1 c1 A2 c2 3 S 0 0 nS nS)) {n:Nat} (Z:g<n) (hn:n<=w) (hP:PX n w (.agg (xC x A1 c1 A2 c2).toArray) x) {G:List Nat} (X:g∈G) (hG: ∀b∈G,b<n) (hB:jM G w) (hr:b<=1000000) (L:c<=9223372036854775807):
  Calls prog 28 #[.pointer g] w fun e w'=>e=.returned Zo/\PX n w' (.agg (xC x A1 c1 A2 c2).toArray) x/\
   ∃l m c' q,wh w g (Hc s a b c d x A1 c1 A2 c2 4 S 0 0 nS (.slice l m c')) w'/\oJ x G w' (.slice l m c') (ep q)/\qn x.days cu.size cu.start q:=by
 obtain⟨J,B,HQ,HR,HX⟩:=Ze (wh.mk (nG w (some g)) U) hP L hr hx.ok;have F:=zH fun(W:World) (G:List Nat) h1 h2=>afe hx (A1:=A1) (c1:=c1) (A2:=A2) (c2:=c2) (G:=G) a b c d W h1 L hr h2;have N:=zH hx.all;have af:=zH fun q h=>hx.pok (q:=q) h;obtain⟨A,HG⟩:=Zb hB hG;have hg:=U.lt;clear hP hr L hx hB hG;go_enter func28,ntmps28;go_upto_region 1 with fail
 go_cut [3,4] from 6 to 17 (fun pv ev wc=> ∃(M:Nat) (l:Option Addr) (m c':Nat) (q:List Int),pv=.pointer M/\ev=.int .i64 0/\g≠M/\fc wc M 30 [.slice l m c']/\Hid (wh w g (Hc s a b c d x A1 c1 A2 c2 3 S 0 0 nS nS) wc)/\Hid (PX n wc (.agg (xC x A1 c1 A2 c2).toArray) x)/\Hid (oJ x G wc (.slice l m c') (ep q))/\Hid (qn x.days cu.size cu.start q))
 case first=>
  have ag:=B;obtain⟨y,v⟩:=Zb (J.below (bF.drew)) (B.below (bF.drew));refine rG (fun wS=>fc wS g 73 (Hc s a b c d x A1 c1 A2 c2 3 S 0 0 nS nS)) [14] (U) fun hS=>?_;clear J B U;refine kL [0,1,2,3,4,5,6,7] ?_;refine pU ?_;refine mL 8 12 rfl rfl rfl rfl kR (fun K f=>?_) (fun K f=>?_)
  ·go_simp;refine(F.out _ G v.out.reads (fun b r=>by have:=HG.out b r;show b<w.heap.size;omega)).mono ?_;rintro e H ⟨l,m,c',q,rfl,L,V,o⟩;obtain⟨i,O⟩:=Zb (y.below o) (v.below o);have hS:=i.bl;have ai:=hS.lt;refine f _ _ (hS) ?_;refine kL [9,10,11] ?_;refine tO 12 fun K f=>?_;go_simp;have t:=fc.new H 30 [nS];have hS:=(i.alloc (cB 30 [nS])).bl;have v0:=t.c 0;have v1:=t.frozen 0;refine f _ _ (hS) ?_;refine tO 13 fun K f=>?_;go_simp;have hS:=(i.alloc (cB 30 [.slice l m c'])).bl;refine f _ _ (hS) ?_;refine tL 14 fun K f=>?_;go_simp;refine f _ _ ?_;refine tD ?_;go_wp2_with fail;go_meet;exact⟨H,l,m,c',q,rfl,rfl,oG,fc.new H _ _,(i.alloc _),(O.alloc _),(oJ.below V (i.rC A) (bL (bS H H) _)),L⟩
  ·go_simp;have t:fc (w.drew.alloc (cB 30 [nS])) w 30 [nS]:=fc.new w.drew _ _;obtain⟨y,v⟩:=Zb (y.alloc (cB 30 [nS])) (v.alloc (cB 30 [nS]));have hS:=y.bl;have ao:g<w.drew.heap.size:=hg;refine f _ _ (hS) ?_;refine tO 8 fun K f=>?_;have aa:Hid (∀b∈w.heap.size::G,b<(w.drew.alloc (cB 30 [nS])).heap.size):=zH fun b r=>by
    rcases fC.1 r with rfl|r
    ·exact t.lt
    ·have:=HG.out b r;simp;omega
   go_simp;refine(F _ (w.heap.size::G) v.reads aa).mono ?_;rintro e H ⟨l,m,c',q,rfl,L,V,o⟩;obtain⟨i,O⟩:=Zb (y.below o) (v.below o);have hS:=i.bl;have ai:=hS.lt;have t:=t.below o t.lt;have v0:=t.c 0;have v1:=t.frozen 0;have lv:=t.lt;refine f _ _ (hS) ?_;refine kL [9,10,11] ?_;refine tO 13 fun K f=>?_;go_simp;have j:=zH (i.kj (k:=w.heap.size) dO lE (.slice l m c'));have hS:=j.bl;refine f _ _ (hS) ?_;refine tL 14 fun K f=>?_;go_simp;refine f _ _ ?_;refine tD ?_;go_wp2_with fail;go_meet;have aj:jM (w.heap.size::G) H:=fun b r=>by
    rcases fC.1 r with rfl|r
    ·exact⟨_,_,t⟩
    ·exact i.rC A b r
   have ah:Below w w (H.setCell w (.slice l m c')):=((bF.drew.alloc lE _).trans (o.mono sI)).setCell (p:=w) lE _;exact⟨w,l,m,c',q,rfl,rfl,oG,t.gH 0 _,j,(ag.below ah),zH ⟨(V.rd.put aj (.head _) 0 (.slice l m c')).XU (fun b r=>by
    rcases fC.1 r with rfl|r
    ·exact⟨_,_,t.gH 0 (.slice l m c')⟩
    ·exact j.rC A b r) (fun b r=>.tail _ r),V.len,V.dy⟩,L⟩
 case rest=>
  obtain⟨M,l,m,c',q,rfl,rfl,Y,D,j,P,HF,Q⟩:=hcut;clear J B U;have aq:=j.bl.lt;have ak:=D.lt;go_upto_region 4 with fail
  obtain⟨y,v,I⟩:=Zc (j.below (bF.drew)) (P.below (bF.drew)) (HF.below (j.rC A) (bF.drew));refine rG (fun wS=>fc wS g 73 (Hc s a b c d x A1 c1 A2 c2 3 S 0 0 nS nS)/\fc wS M 30 [.slice l m c']) [6] (⟨j.bl,D⟩) fun hS=>?_;refine kL [0,1,2,3,4] ?_;refine tO 5 fun K f=>?_;go_simp;refine(RY HX N _ _ (ep q) _ (I.look HX (y.rC A)) v.reads).mono ?_;rintro e w5 ⟨z,rfl,⟨-,hz⟩,u⟩;obtain rfl:z=0:=hz (af q Q);obtain⟨C,ae,HF⟩:=Zc (y.below u) (v.below u) (I.below (y.rC A) u);have E:=fc.below D.drew u ak;refine f _ _ (⟨C.bl,E⟩) ?_;refine tL 6 fun K f=>?_;go_simp;refine f _ _ ?_;refine tD ?_;clear y v I j P hS D hz u;have R:=C.bl;have c11:=R.c 11;have al:=R.frozen 11;have c16:=R.c 16;have an:=R.frozen 16;have l5:=R.lt;have ar:=E.lt;go_upto_region 7 with fail
  refine rG (fun wS=>fc wS M 30 [.slice l m c']) [] (E) fun hS=>?_;refine kL [0,1,2,3,4,5] ?_;refine tO 6 fun K f=>?_;go_simp;have T:=E.drew.kj (p:=pA g 11) (jN Y) (.int .i64 4);have hS:=T;refine f _ _ (hS) ?_;refine kL [7,8,9] ?_;refine tO 10 fun K f=>?_;go_simp;have hS:=T.kj (p:=pA g 16) (jN Y) (.slice l m c');refine f _ _ (hS) ?_;refine tD ?_;go_wp2_with fail;go_ret;have e0:=C.below (bF.drew);have e1:=e0.put 11 (.int .i64 4);have e2:=(HF.below (C.rC A) (bF.drew)).put (e0.rC A) X 11 (.int .i64 4);exact⟨rfl,((ae.below (bF.drew)).put Z 11 _).put Z 16 _,l,m,c',q,e1.put 16 _,e2.put (e1.rC A) X 16 _,Q⟩
end
section
open Go.Proofs.Tryz
open Go Go.RowKit ue jm uf ko kN
def I7 {x:fS} (Y:eV x) (g:Nat) (s:ByteArray) (a b c d:Int) (A1:Option Addr) (c1:Nat) (A2:Option Addr) (c2:Nat) (M:Int) (z:Option Addr) (H c':Nat) (p:Pl) (w:World) (X:fc w g 73 (Hc s a b c d x A1 c1 A2 c2 4 M 0 0 nS (.slice z H c')))
  {n:Nat} (E:g<n) (W:PX n w (.agg (xC x A1 c1 A2 c2).toArray) x) {G:List Nat} (D:g∈G) (U:jM G w) (V:oJ x G w (.slice z H c') p):
  Calls prog 29 #[.pointer g] w fun e w'=>e=.returned Zo/\ ∃dv,wh w g (Hc s a b c d x A1 c1 A2 c2 4 M (xj x p) (me (pJ x p x.eB)) dv (.slice z H c')) w'/\oJ x G w' (.slice z H c') p/\OI w w' dv (ow x p):=by
 obtain⟨f,k,i,I,m⟩:=Ze (wh.mk (nG w (some g)) X) W V Y U;clear W V X Y U;obtain⟨J,A⟩:=nR (xj x p);obtain⟨L,B⟩:=nR (me (pJ x p x.eB));obtain⟨S,C⟩:=nR (ow x p);rw[A,B,C];obtain⟨Z,Q2,Q3⟩:=Zc A B C;clear A B C;go_enter func29,ntmps29;go_upto_region 1 with fail
 have l:=zH (f.below (bF.drew));have y:=l;obtain⟨t,o⟩:=Zb (k.below (bF.drew)) (i.below (f.rC m) (bF.drew));refine rG (fun wS=>fc wS g 73 (Hc s a b c d x A1 c1 A2 c2 4 M 0 0 nS (.slice z H c'))) [14] (f.bl) fun hS=>?_;refine kL [0,1,2,3,4,5,6,7,8,9] ?_;refine tO 10 fun K v=>?_;go_simp;refine(Cz I _ _ p _ (o.look I (l.rC m)) t.reads).mono ?_;rintro e P ⟨rfl,j⟩;rw[Z.out];obtain⟨h,u,r⟩:=Zc (l.below j) (t.below j) (o.below (l.rC m) j);have hS:=h.bl;have N:=hS.c 13;have O:=hS.frozen 13;refine v _ _ (hS) ?_;refine kL [11,12,13] ?_;refine tL 14 fun K v=>?_;go_simp;refine v _ _ ?_;refine tD ?_;obtain⟨f,k,i⟩:=Zc (h.put 13 J) (u.put E 13 J) (r.put (h.rC m) D 13 J);clear l t o hS N O;go_upto_region 2 with fail
 revert f k i;generalize P.setCell (pA g 13) J=w4;intro f k i;have l:=zH (f.below (bF.drew));have y:=l;obtain⟨t,o⟩:=Zb (k.below (bF.drew)) (i.below (f.rC m) (bF.drew));refine rG (fun wS=>fc wS g 73 (Hc s a b c d x A1 c1 A2 c2 4 M J 0 nS (.slice z H c'))) [14] (f.bl) fun hS=>?_;refine kL [0,1,2,3,4,5,6,7,8,9] ?_;refine tO 10 fun K v=>?_;go_simp;refine(Bg I _ _ p _ (o.look I (l.rC m)) t.reads).mono ?_;rintro e P ⟨rfl,j⟩;rw[Q2.out];obtain⟨h,u,r⟩:=Zc (l.below j) (t.below j) (o.below (l.rC m) j);have hS:=h.bl;have N:=hS.c 14;have O:=hS.frozen 14;refine v _ _ (hS) ?_;refine kL [11,12,13] ?_;refine tL 14 fun K v=>?_;go_simp;refine v _ _ ?_;refine tD ?_;obtain⟨f,k,i⟩:=Zc (h.put 14 L) (u.put E 14 L) (r.put (h.rC m) D 14 L);clear l t o hS N O;go_upto_region 3 with fail
 revert f k i;generalize P.setCell (pA g 14) L=w5;intro f k i;have l:=zH (f.below (bF.drew));have y:=l;obtain⟨t,o⟩:=Zb (k.below (bF.drew)) (i.below (f.rC m) (bF.drew));refine rG (fun wS=>fc wS g 73 (Hc s a b c d x A1 c1 A2 c2 4 M J L nS (.slice z H c'))) [14] (f.bl) fun hS=>?_;refine kL [0,1,2,3,4,5,6,7,8,9] ?_;refine tO 10 fun K v=>?_;go_simp;refine(acr I _ _ p _ (o.look I (l.rC m)) t.reads).mono ?_;rintro e P ⟨lv,rfl,F,j⟩
 (rw[Q3.out] at F;obtain⟨Q,T,rfl,-⟩:=F.slice)
 obtain⟨h,u,r⟩:=Zc (l.below j) (t.below j) (o.below (l.rC m) j);have hS:=h.bl;have N:=hS.c 15;have O:=hS.frozen 15;refine v _ _ (hS) ?_;refine kL [11,12,13] ?_;refine tL 14 fun K v=>?_;go_simp;refine v _ _ ?_;refine tD ?_;obtain⟨f,k,i⟩:=Zc (h.put 15 (.slice Q S T)) (u.put E 15 (.slice Q S T)) (r.put (h.rC m) D 15 (.slice Q S T));clear l t o hS N O;have R:=zH (show w.heap.size<=_ from y.gr.size);go_wp2_with fail;go_ret;exact⟨rfl,_,f,i,OI.mono (F.vo h.bl dE (q:=(pA g 15)) rfl _) R⟩
def aaA (X:fS×Int) (cu:kc) (ua ub:Int) (w:World) (o bd co ho:Int) (dv pv:Value):Prop:=
 (X.2=2→o=1∧co=0∧ho=0∧dv=nS∧pv=nS)∧(X.2=0→o=4∧bd=pe X.1 cu ua ub∧ ∃q,qn X.1.days cu.size cu.start q∧jP w pv (ep q)∧co=xj X.1 (ep q)∧ ∃A n c,dv= .slice A n c)
abbrev uR (o bd co ho:Int) (dv pv:Value):List Value:=[.int .i64 o,.int .i64 bd,.int .i64 co,.int .i64 ho,dv,pv]
abbrev rU (g:Nat):List Value:=[.func (.func 26) #[.pointer (some ⟨g,0,none⟩)] #[],.func (.func 27) #[.pointer (some ⟨g,0,none⟩)] #[],.func (.func 28) #[.pointer (some ⟨g,0,none⟩)] #[],.func (.func 29) #[.pointer (some ⟨g,0,none⟩)] #[]]
inductive Ta (x:fS) (cu:kc) (ua ub:Int) (s:ByteArray) (a b c d:Int) (G:List Nat) (n g:Nat) (w0:World):Nat→World→Prop
 |s0:Ta x cu ua ub s a b c d G n g w0 0 w0
 |s1 {w A1 c1 A2 c2} (h:wh w0 g (Hc s a b c d x A1 c1 A2 c2 0 0 0 0 nS nS) w) (hP:PX n w (.agg (xC x A1 c1 A2 c2).toArray) x):Ta x cu ua ub s a b c d G n g w0 1 w
 |s2 {w A1 c1 A2 c2} (h:wh w0 g (Hc s a b c d x A1 c1 A2 c2 3 (pe x cu ua ub) 0 0 nS nS) w) (hP:PX n w (.agg (xC x A1 c1 A2 c2).toArray) x):Ta x cu ua ub s a b c d G n g w0 2 w
 |s3 {w A1 c1 A2 c2 a' n' c' q} (h:wh w0 g (Hc s a b c d x A1 c1 A2 c2 4 (pe x cu ua ub) 0 0 nS (.slice a' n' c')) w) (hP:PX n w (.agg (xC x A1 c1 A2 c2).toArray) x) (hF:oJ x G w (.slice a' n' c') (ep q)) (hM:qn x.days cu.size cu.start q):Ta x cu ua ub s a b c d G n g w0 3 w
 |s4 {w A1 c1 A2 c2 Ad nd cd a' n' c' q} (h:wh w0 g (Hc s a b c d x A1 c1 A2 c2 4 (pe x cu ua ub) (xj x (ep q)) (me (pJ x (ep q) x.eB.length)) (.slice Ad nd cd) (.slice a' n' c')) w) (hF:oJ x G w (.slice a' n' c') (ep q)) (hM:qn x.days cu.size cu.start q):Ta x cu ua ub s a b c d G n g w0 4 w
theorem wJ:(Tryz.prog.info? 32).map (·.size)=some 6:=by kernel_rfl
theorem Fi (cu:kc) (ua ub:Int) (sa:ByteArray) (m:Int) (lv:Value) (a b c d:Int) (w:World) (hread: ∀W,Below w.heap.size w W→Calls Tryz.prog 25 #[lv] W fun e W'=>e= .returned (.agg #[.int .i64 a,.int .i64 b,.int .i64 c,.int .i64 d])∧Below W.heap.size W W')
  (hb:b≤1000000) (hc:c≤9223372036854775807) (hsz:sa.size≤1000000) (hl: ∀l∈uK sa.data.toList,l.length≤1000) (hm:w.cell? ⟨0,0,none⟩=some (.int .i64 m)) (hx:(kU sa.data.toList).2=0→iF (kU sa.data.toList).1 cu ua ub):
  Calls Tryz.prog 7 #[.string sa,lv] w fun e w'=> ∃o bd co ho dv pv,e= .returned (.agg (uR o bd co ho dv pv).toArray)∧Below w.heap.size w w'∧aaA (kU sa.data.toList) cu ua ub w' o bd co ho dv pv:=by
 have HPA:=jA fun(g:Nat) (W:World) (h1:Below w.heap.size w W) (h2:fc W g 73 (Xp sa a b c d zI zI zI zI nS nS 0 0 0 0 nS nS))=>I0 g sa m a b c d W h2 hsz hl (a7 h1 (ij _) hm);have HX:=jA hx;have HR:=jA hread;have HI:=jA (And.intro hb hc);clear hx hread hb hc hsz hl hm;generalize kU sa.data.toList=X at HPA HX⊢;obtain⟨x,z⟩:=X;dsimp only at HPA HX;have hb1:=bL (bS w.heap.size w) (.cells (uR 0 0 0 0 nS nS).toArray 32);have bT:=fc.new w 32 (uR 0 0 0 0 nS nS);go_enter Tryz.func7,Tryz.ntmps7;go_wp2_with fail;refine(HR.out _ hb1).mono ?_;rintro e w2 ⟨rfl,hb2⟩;have hb3:=hb1.trans (hb2.mono hb1.size);replace bT:=bT.below hb2 bT.lt;clear hb1 hb2;go_wp2_with fail;obtain⟨w3,hw3,⟨bg,bf,-⟩,hb4,hs3⟩:=sk w2 [(73,Xp sa a b c d zI zI zI zI nS nS 0 0 0 0 nS nS),(74,rU w2.heap.size)];simp only[Hk] at hw3;rw[hw3];have HB3:=jA (hb3.trans (hb4.mono hb3.size));have lT:=bT.lt;replace bT:=bT.below hb4 bT.lt;obtain⟨g,hg⟩: ∃g,g=w2.heap.size:=⟨_,rfl⟩;rw[←hg] at bg bf⊢hs3 lT;have hgw:=hb3.size;rw[←hg] at hgw;have hwn:w.heap.size≠g:=by omega
 have HGB:Hid (jM [g,w.heap.size] w3):=jA fun b hm=>by
  rcases fC.1 hm with rfl|hm
  ·exact⟨_,_,bg⟩
  ·cases nw.1 hm;exact⟨_,_,bT⟩
 have HGN:Hid (∀b∈[g,w.heap.size],b <w3.heap.size):=jA fun b hm=>by
  rcases fC.1 hm with rfl|hm
  ·exact bg.lt
  ·cases nw.1 hm;exact bT.lt
 have HBG:=jA bg;have hgn:=bg.lt;have HS0:=jA (wh.mk (nG w3 (some g)) bg);clear hb3 hb4 hw3 hg hs3 bg;go_loopw [23] (fun iv wr=> ∃i:Nat,iv= .int .i64 i∧Hid (0 <i→z=0)∧Hid (Ta x cu ua ub sa a b c d [g,w.heap.size] w3.heap.size g w3 i wr)) (fun iv _=>4 - (intOf iv).toNat)
 case atStart=>exact⟨0,rfl,jA fun h=>absurd h (by omega),jA .s0⟩
 case round=>
  obtain⟨i,rfl,HZ,HST⟩:=hrel;have hst:=HST.out;clear HST;cases hst with
  |s0=>
   have HS:=HS0;have fL:=bf.grown HS.out.gr (by simp);have hff:=fL.iY;simp only[im,Nat.reduceAdd] at hff;have lff:=fL.lt;go_wp2_with fail;refine(HPA.out g w3 HB3.out HBG.out).mono ?_;rintro e w4 ⟨rfl,h1,h2⟩;by_cases h0:z=0
   ·obtain⟨A1,c1,A2,c2,hS,hP⟩:=h1 h0;have HN:=jA (Ta.s1 (cu:=cu) (ua:=ua) (ub:=ub) (G:=[g,w.heap.size]) hS hP);subst h0;clear h1 h2 hS hP hff HS;go_wp2_with fail;go_roundw
    case rel=>exact⟨1,by go_num,jA fun _=>trivial,HN⟩
    case measure=>simp[intOf]
   ·obtain⟨o,ho,ho2,hS⟩:=h2 h0;have HS:=jA hS;have HO:=jA ho;have hz:(z==0)=false:=by simp[h0]
    clear h1 h2 hS ho hff fL;have bg9:=HS.out.bl;have t9:=bT.grown HS.out.gr (by simpa using hwn);have lg9:=bg9.lt;have hcc:=bg9.iY;simp only[im,Nat.reduceAdd] at hcc;go_wp2_with (refine fH _ rfl 32 (.tmp 4) (.tmp 34) rfl w.heap.size 32 _ (uR o 0 0 0 nS nS) t9 rfl rfl wJ rfl rfl ?_;intro w9 b9 hg9 hz9);refine bodyPost_ret (v:= .agg (uR o 0 0 0 nS nS).toArray) (ia rfl _ _ w.heap.size 32 _ _ rfl b9 Tryz.underlying32 rfl wJ) rfl ?_;have hbw:Below w.heap.size w w9:=(HB3.out.grown HS.out.gr HB3.out.size (fun k e=>by cases e;omega)).grown hg9 (eZ HB3.out.size HS.out.gr.size) (fun k e=>by cases e;exact ij _);exact⟨o,0,0,0,nS,nS,rfl,hbw,fun h=>⟨HO.out h,rfl,rfl,rfl,rfl⟩,fun h=>absurd h h0⟩
  | @s1 wr A1 c1 A2 c2 h hP=>
   obtain rfl:z=0:=HZ.out (by omega);have HS:=jA h;have HP:=jA hP;have fL:=bf.grown HS.out.gr (by simp);have hff:=fL.iY;simp only[im,Nat.reduceAdd] at hff;have lff:=fL.lt;clear h hP HZ;go_wp2_with fail;refine(Hz (HX.out trivial) g sa a b c d A1 c1 A2 c2 _ HS.out.bl hgn HP.out).mono ?_;rintro e w4 ⟨rfl,hS,hP⟩;have HN:=jA (Ta.s2 (cu:=cu) (ua:=ua) (ub:=ub) (G:=[g,w.heap.size]) (HS.out.trans hS) hP);clear hS hP hff HS HP fL;go_wp2_with fail;go_roundw
   case rel=>exact⟨2,by go_num,jA fun _=>trivial,HN⟩
   case measure=>simp[intOf]
  | @s2 wr A1 c1 A2 c2 h hP=>
   obtain rfl:z=0:=HZ.out (by omega);have HS:=jA h;have HP:=jA hP;have fL:=bf.grown HS.out.gr (by simp);have hff:=fL.iY;simp only[im,Nat.reduceAdd] at hff;have lff:=fL.lt;clear h hP HZ;go_wp2_with fail;refine(KA (HX.out trivial) g sa a b c d A1 c1 A2 c2 (pe x cu ua ub) _ HS.out.bl hgn HS.out.gr.size HP.out (G:=[g,w.heap.size]) (.head _) HGN.out (HS.out.rC HGB.out) HI.out.1 HI.out.2).mono ?_;rintro e w4 ⟨rfl,hP,a',n',c',q,hS,hF,hM⟩;have HN:=jA (Ta.s3 (cu:=cu) (ua:=ua) (ub:=ub) (HS.out.trans hS) hP hF hM);clear hS hP hF hM hff HS HP fL;go_wp2_with fail;go_roundw
   case rel=>exact⟨3,by go_num,jA fun _=>trivial,HN⟩
   case measure=>simp[intOf]
  | @s3 wr A1 c1 A2 c2 a' n' c' q h hP hF hM=>
   obtain rfl:z=0:=HZ.out (by omega);have HS:=jA h;have HP:=jA hP;have HF:=jA hF;have HM:=jA hM;have fL:=bf.grown HS.out.gr (by simp);have hff:=fL.iY;simp only[im,Nat.reduceAdd] at hff;have lff:=fL.lt;clear h hP HZ hF hM;go_wp2_with fail;refine(I7 (HX.out trivial).ok g sa a b c d A1 c1 A2 c2 (pe x cu ua ub) a' n' c' (ep q) _ HS.out.bl hgn HP.out (G:=[g,w.heap.size]) (.head _) (HS.out.rC HGB.out) HF.out).mono ?_;rintro e w4 ⟨rfl,dv,hS,hF,hD⟩;obtain⟨Ad,cd,rfl,-⟩:=hD.slice;have HN:=jA (Ta.s4 (cu:=cu) (ua:=ua) (ub:=ub) (n:=w3.heap.size) (HS.out.trans hS) hF HM.out);clear hS hF hD hff HS HP HF HM fL;go_wp2_with fail;go_roundw
   case rel=>exact⟨4,by go_num,jA fun _=>trivial,HN⟩
   case measure=>simp[intOf]
  | @s4 wr A1 c1 A2 c2 Ad nd cd a' n' c' q h hF hM=>
   obtain rfl:z=0:=HZ.out (by omega);have HS:=jA h;have HF:=jA hF;have HM:=jA hM;obtain⟨K1,hK1⟩: ∃k,xj x (ep q)=k:=⟨_,rfl⟩;obtain⟨K2,hK2⟩: ∃k,me (pJ x (ep q) x.eB.length)=k:=⟨_,rfl⟩;obtain⟨V,hV⟩: ∃k,pe x cu ua ub=k:=⟨_,rfl⟩;rw[hK1,hK2,hV] at HS;have Q1:=jA hK1;have Q3:=jA hV;clear h HZ hF hM hK1 hK2 hV;have bg9:=HS.out.bl;have t9:=bT.grown HS.out.gr (by simpa using hwn);have lg9:=bg9.lt;have hcc:=bg9.iY;simp only[im,Nat.reduceAdd] at hcc;go_wp2_with (refine fH _ rfl 32 (.tmp 4) (.tmp 34) rfl w.heap.size 32 _ (uR 4 V K1 K2 (.slice Ad nd cd) (.slice a' n' c')) t9 rfl rfl wJ rfl rfl ?_;intro w9 b9 hg9 hz9);refine bodyPost_ret (v:= .agg (uR 4 V K1 K2 (.slice Ad nd cd) (.slice a' n' c')).toArray) (ia rfl _ _ w.heap.size 32 _ _ rfl b9 Tryz.underlying32 rfl wJ) rfl ?_;have hbw:Below w.heap.size w w9:=(HB3.out.grown HS.out.gr HB3.out.size (fun k e=>by cases e;omega)).grown hg9 (eZ HB3.out.size HS.out.gr.size) (fun k e=>by cases e;exact ij _);exact⟨4,V,K1,K2,_,_,rfl,hbw,fun h=>absurd h (by simp),fun _=>⟨rfl,Q3.out.symm,q,HM.out,(HF.out.rd.grown (HS.out.rC HGB.out) (by simp) hg9).reads (fun b hm=>by
    rcases fC.1 hm with rfl|hm
    ·exact⟨_,_,bg9.grown hg9 (by simpa using jN hwn)⟩
    ·cases nw.1 hm;exact⟨_,_,b9⟩),Q1.out.symm,_,_,_,rfl⟩⟩
def Hq:List (List UInt8):=[[111,117,116,99,111,109,101],[109,97,108,102,111,114,109,101,100]]
def I8 (c d i:Int) (A1 A2:Option Addr) (f c1 h c2:Nat) (w:World):
  Calls prog 58 #[.agg (uR 1 c d i (.slice A1 f c1) (.slice A2 h c2)).toArray] w fun e w'=>e=.returned (kI (kx Hq))/\Below w w w':=by
 have l:=fc.new w 32 (uR 1 c d i (.slice A1 f c1) (.slice A2 h c2));have c0:=l.c 0;go_enter func58,ntmps58;go_wp2_with fail;refine(QR Hq _ _ (fc.fW (w.alloc (cB 32 (uR 1 c d i (.slice A1 f c1) (.slice A2 h c2)))) 9 (Hq.map kI) (g:=w.heap.size+1) sI).strs dE dE).mono ?_;rintro e j ⟨rfl,a⟩;have b:Below w w j:=(bL (bL (bS w w) (cB 32 (uR 1 c d i (.slice A1 f c1) (.slice A2 h c2)))) (cB 9 (Hq.map kI))).trans (a.mono sO);clear a;generalize k:kI (kx Hq)=B;go_wp2_with fail;go_ret;exact⟨by first|rfl|(rw[k];rfl),b⟩
def Oj:(kU []).2=2:=by decide+kernel
def Ow (m:Int) (w:World) (f:w.cell? (pB 0)=some m):
  Calls prog 35 #[.string ⟨#[]⟩,()] w fun e w'=>e=.returned (kI (kx Hq))/\Below w w w':=by
 have n:(kU (⟨#[]⟩:ByteArray).data.toList).2=2:=Oj;have g:=zH (Fi ⟨0,0,[],0,0,0,0,0⟩ 0 0 ⟨#[]⟩ m () 0 0 0 0 w (fun W _=>LI W) dE dE dE dE f (fun h=>by rw[n] at h;cases h));have q:=zH n;clear n f;go_enter func35,ntmps35;go_wp2_with fail;refine g.mono ?_;rintro e j ⟨o,c,d,i,dv,r,rfl,a,p,-⟩;obtain⟨rfl,rfl,rfl,rfl,rfl⟩:=p q;clear p;go_wp2_with fail;refine(I8 c 0 0 none none 0 0 0 0 j).mono ?_;rintro e s ⟨rfl,b⟩;have l:=a.trans (b.mono a.size);clear a b;generalize k:kI (kx Hq)=B;go_wp2_with fail;go_ret;exact⟨by first|rfl|(rw[k];rfl),l⟩
def Qa:kI (kx Hq)=.string ⟨#[111,117,116,99,111,109,101,32,109,97,108,102,111,114,109,101,100,10]⟩:=by rfl
def Ew (m:Int) (w:World) (f:w.cell? (pB 0)=some m):
  Calls prog 10 #[] w fun e w'=>e=.returned true/\Below w w w':=by
 have g:=zH (Ow m w f);rw[Qa] at g;clear f;go_enter func10,ntmps10;go_wp2_with fail;refine g.mono ?_;rintro e j ⟨rfl,a⟩;go_wp2_with fail;go_ret;exact⟨rfl,a⟩
end
section
open Go.Proofs.Tryz
open Go.RowKit jm
theorem pn (n m:Int) (w:World) (hn:tq n) (h0:1≤m∧m≤2147483648):
  Calls Tryz.prog 17 #[.int .i64 n,.int .i64 m] w fun e w'=>e= .returned (.int .i64 (py n m))∧w=w':=by
 obtain⟨n1,n2⟩:=hn;by_cases hs:n <0
 ·have H:=jA (show py n m=(-(n+1))%m by rw[py,if_pos hs]);have hm:=vf (-(n+1)) (show m≠0 by omega);have hm2:=rQ (-(n+1)) (show 0 <m by omega);go_enter Tryz.func17,Tryz.ntmps17;go_wp2;go_ret;exact⟨oC (by rw[H.out,←Int.neg_tmod,Int.tmod_eq_emod_of_nonneg (by omega)]),rfl⟩
 ·have H:=jA (show py n m=n%m by rw[py,if_neg hs]);have hm:=vf n (show m≠0 by omega);have hm2:=rQ n (show 0 <m by omega);go_enter Tryz.func17,Tryz.ntmps17;go_wp2;go_ret;exact⟨oC H.out.symm,rfl⟩
section
variable (dm:Int) (A0:Option Addr) (n0 c0:Nat) (size start hold:Int)
theorem aec (n:Int) (w:World) (hs:0≤start∧start≤2147483648) (hn:0≤n∧n≤64):
  Calls Tryz.prog 63 #[.agg (pL dm A0 n0 c0 size start hold).toArray,.int .i64 n] w fun e w'=>e= .returned (.int .i64 (max (n - start) 0))∧Below w.heap.size w w':=by
 have hb:=bL (bS w.heap.size w) (.cells (pL dm A0 n0 c0 size start hold).toArray 47);have bx:=fc.new w 47 (pL dm A0 n0 c0 size start hold);have x3:=bx.c 3;have x5:=bx.c 5;go_enter Tryz.func63,Tryz.ntmps63;go_wp2_with fail;all_goals go_ret
 all_goals exact⟨Je (by omega),hb⟩
end
section
variable (dm:Int) (A0:Option Addr) (n0 c0:Nat) (c:kc)
theorem adC (n:Int) (w:World) (hr:c.jU=1) (hs:1≤c.size∧c.size≤2147483648) (ht:0≤c.start∧c.start≤c.size) (hn:1≤n∧n≤64):
  Calls Tryz.prog 38 #[.agg (pL dm A0 n0 c0 c.size c.start c.hold).toArray,.int .i64 n,.int .i64 2147483648] w fun e w'=>e= .returned (.int .i64 (dd c n))∧Below w.heap.size w w':=by
 have HE:=jA fun k=>ad1 (c:=c) (n:=n) (k:=k) hs.1 hn.1;have hwz:gw c n=max (n - c.start) 0:=by unfold gw;rw[hr];omega
 obtain⟨F,hF⟩: ∃F,dd c n=F:=⟨_,rfl⟩;rw[hwz,hF] at HE;rw[hF];have HW:=jA fun hold W=>aec dm A0 n0 c0 c.size c.start hold n W (by omega) (by omega);obtain⟨K,hK⟩: ∃K,max (n - c.start) 0=K:=⟨_,rfl⟩;have hKb:0≤K∧K≤64:=by omega
 rw[hK] at HE HW;clear hwz hF hK hr;obtain⟨W,hW⟩: ∃W,w.alloc (.cells (pL dm A0 n0 c0 c.size c.start c.hold).toArray 47)=W:=⟨_,rfl⟩;have hb:Below w.heap.size w W:=by rw[←hW];exact bL (bS _ _) _
 have bx:fc W w.heap.size 47 (pL dm A0 n0 c0 c.size c.start c.hold):=by rw[←hW];exact fc.new _ _ _
 have d1:decide ((2147483648:Int) <c.size)=false:=decide_eq_false (by omega);have d2:decide (c.size <0)=false:=decide_eq_false (by omega);have hlt:=bx.lt;go_enter Tryz.func38,Tryz.ntmps38;go_upto_region 1 with fail
 clear hW;have hh:=bx.iY;simp only[im,Nat.reduceAdd] at hh;go_wp2_with fail;refine(HW.out c.hold W).mono ?_;rintro e w2 ⟨rfl,hb2⟩;have hb3:=hb.trans (hb2.mono hb.size);clear hh hlt d1 d2 hb hb2 bx;go_wp2_with fail;go_loopw [11,12] (fun lv mv wr=> ∃k:Nat,(k:Int)≤n∧(0 <k→c.size*((k:Int) - 1) <K)∧mv= .int .i64 k∧lv= .int .i64 (K - c.size*k)∧wr=w2) (fun _ mv _=>(n - intOf mv).toNat)
 case atStart=>exact⟨0,by omega,fun h=>absurd h (by decide),rfl,by simp,rfl⟩
 case round=>
  obtain⟨k,hk,hp,rfl,rfl,rfl⟩:=hrel;have HP:=jA hp;have HQ:Hid (c.size*((k+1:Nat):Int)=c.size*(k:Int)+c.size∧c.size*(((k+1:Nat):Int) - 1)=c.size*(k:Int)):=jA ⟨by rw[Pz,vd];simp,by congr 1;omega⟩;have hPb:0≤c.size*(k:Int)∧c.size*(k:Int)≤2147483648*64:=⟨eS (by omega) (by omega),eX hs.2 (by omega) (by omega) (by decide)⟩;have HEK:=jA (HE.out k hk hp);clear hp;obtain⟨P,hP⟩: ∃P,c.size*(k:Int)=P:=⟨_,rfl⟩;rw[hP] at hPb HQ HEK⊢;clear hP;by_cases h1:0 <K - P
  ·by_cases h2:(k:Int) <n
   ·have e1:decide (0 <K - P)=true:=decide_eq_true h1;have e2:decide ((k:Int) <n)=true:=decide_eq_true h2;go_wp2_with fail;go_roundw
    case rel=>exact⟨k+1,by omega,fun _=>by rw[HQ.out.2];omega,by go_num,by rw[HQ.out.1];congr 1;omega,trivial⟩
    case measure=>exact mI
   ·have e1:decide (0 <K - P)=true:=decide_eq_true h1;have e2:decide ((k:Int) <n)=false:=decide_eq_false h2;go_wp2_with fail;go_ret;exact⟨Je (HEK.out (.inr (by omega))).symm,hb3⟩
  ·have e1:decide (0 <K - P)=false:=decide_eq_false h1;go_wp2_with fail;go_ret;exact⟨Je (HEK.out (.inl (by omega))).symm,hb3⟩
end
section
variable {x:fS} {c:kc} {a b:Int} (hx:iF x c a b)
include hx
theorem iF.afD:aaE x.gn 0 (x.eB.length+1)=a:=by rw[hx.len];show aaE x.gn 0 2=a;rw[aaE,if_pos (by decide),aaE,if_neg (by decide),aaE];show min (sm x.gn 0 1) (sm x.gn 0 1)=a;rw[Int.min_self,hx.V4.1]
theorem aeG {A1:Option Addr} {c1:Nat} {A2:Option Addr} {c2:Nat} (w:World) (hr:iz w (.agg (xC x A1 c1 A2 c2).toArray) x):
  Calls Tryz.prog 18 #[.agg (xC x A1 c1 A2 c2).toArray] w fun e w'=>e= .returned (.int .i64 (a*dd c x.days))∧Below w.heap.size w w':=by
 obtain⟨g,o,c1',A2',c2',dm,A0,n0,c0,e,hm⟩:=hx.mem hr;obtain⟨rfl,rfl,rfl,rfl⟩:=aee e;have hfb:=hx.fb;have hab:=hx.ab;have hmul:0≤a*dd c x.days∧a*dd c x.days≤1073741824*64:=⟨eS hab.1.1 hfb.1,eX (by omega) hfb.2 hfb.1 (by decide)⟩;have hct:=hx.ct;have hst:=hx.start;have hd:=hx.hd;have hl:=hx.len;have HC:=jA fun W h=>ad9 (.agg (xC x (some ⟨g,o,none⟩) c1 A2 c2).toArray) x 0 W h hx.ok.V4 (by omega) (by decide) (by decide);rw[hx.afD] at HC;have HFO:=jA fun W=>adC dm A0 n0 c0 c x.days W hct.2.1 hct.2.2.2.1 hst hd.2.2.2;have HR:=jA hr;have HM:=jA hm;have hlx:(0:Int) <x.eB.length:=by omega
 have HCAP:=jA hd.2.1;have HD1:Hid (¬(1:Int) <x.eB.length):=jA (by omega);obtain⟨F,hF⟩: ∃F,dd c x.days=F:=⟨_,rfl⟩;rw[hF] at HFO hmul⊢;obtain⟨V,hV⟩: ∃V,a*F=V:=⟨_,rfl⟩;rw[hV] at hmul⊢;have e1:IntKind.i64.wrap (a*F)=V:=by rw[hV,jB];omega
 have e2:IntKind.i64.wrap V=V:=by rw[jB];omega
 clear e hr hm hF hV hfb hab hct hst hd hl;obtain⟨W,hW⟩: ∃W,w.alloc (.cells (xC x (some ⟨g,o,none⟩) c1 A2 c2).toArray 25)=W:=⟨_,rfl⟩;have hb:Below w.heap.size w W:=by rw[←hW];exact bL (bS _ _) _
 have bx:fc W w.heap.size 25 (xC x (some ⟨g,o,none⟩) c1 A2 c2):=by rw[←hW];exact fc.new _ _ _
 obtain⟨k0,k1,k2,k3,k4,k5,-⟩:=bx.iY;go_enter Tryz.func18,Tryz.ntmps18;go_upto_region 1 with fail
 clear hW k0 k1 k2 k3 k4 k5;go_wp2_with fail;go_loopw [3,4] (fun sv iv wr=> ∃i:Nat,i≤1∧iv= .int .i64 i∧sv= .int .i64 (if i=0 then 0 else V)∧fc wr w.heap.size 25 (xC x (some ⟨g,o,none⟩) c1 A2 c2)∧Below w.heap.size w wr) (fun _ iv _=>1 - (intOf iv).toNat)
 case atStart=>exact⟨0,by decide,rfl,rfl,bx,hb⟩
 case round=>
  clear bx hb;obtain⟨i,hi,rfl,rfl,bx,hb⟩:=hrel;obtain⟨k0,k1,k2,k3,k4,k5,-⟩:=bx.iY;have hlb:=bx.lt;by_cases h:i=0
  ·subst h;rw[if_pos rfl];have hdd:decide (((0:Nat):Int) <x.eB.length)=true:=decide_eq_true hlx;go_wp2_with fail;refine(HC.out wr (HR.out.below hb (ij _))).mono ?_;rintro e w3 ⟨rfl,hb3⟩;have bx3:=bx.below hb3 hlb;have hb4:=hb.trans (hb3.mono hb.size);clear k0 k1 k2 k3 k4 k5 hlb bx hb hb3 hdd;obtain⟨k0,k1,k2,k3,k4,k5,-⟩:=bx3.iY;rw[HCAP.out] at k2;have hlb:=bx3.lt;have hm3:=HM.out.below hb4 (ij _);obtain⟨hgl,y0,y1,y2,y3,y4,y5,y6,y7⟩:=hm3;go_upto_region 6 with fail
   refine rB [] fun hS=> ?_;refine tk 0 hS ?_;refine tk 1 hS ?_;refine tk 2 hS ?_;refine tk 3 hS ?_;refine tk 4 hS ?_;refine tk 5 hS ?_;refine tk 6 hS ?_;refine tk 7 hS ?_;refine tk 8 hS ?_;refine tk 9 hS ?_;refine tk 10 hS ?_;refine tO 11 fun K hK=> ?_;go_simp;refine(HFO.out _).mono ?_;rintro e w5 ⟨rfl,hb5⟩;have hS:=hS.trans (hb5.mono hS.size);refine hK.out _ _ (hS) ?_;clear hK K;refine tk 12 hS ?_;refine tk 13 hS ?_;refine tk 14 hS ?_;refine tD ?_;go_wp2_with fail;go_roundw
   case rel=>exact⟨1,by decide,by go_num,by rw[if_neg (by decide)],bx3.below hS hlb,hb4.trans (hS.mono hb4.size)⟩
   case measure=>simp[intOf]
  ·obtain rfl:i=1:=by omega
   rw[if_neg (by decide)];have hdd:=HD1.out;go_wp2_with fail;go_ret;exact⟨rfl,hb⟩
end
end
section
open Go.Proofs.Tryz
open Go Go.RowKit ue jm uf ko Et kN
theorem KB {y:fS} (h:Xx y): ∀l∈uK (na y),l.length≤1000:=by rw[(tB (acx h.wf h.may)).1];intro l hl;have:=h.lines l hl;omega
theorem ad3 {w:World} {d s h a b:Int} {g g2 g3 g4 cp:Nat} {t2 t3 t4:TypeId} (hg:g <w.heap.size) (hcp:1≤cp∧cp≤maxLen)
  (hc: ∀(j:Nat) u,(pL 0 none 0 0 s (s/2) h)[j]? =some u→w.cell? ⟨g,j,none⟩=some u)
  (h2:fc w g2 t2 [.int .i64 0,.int .i64 a]) (h3:fc w g3 t3 [.int .i64 b,.int .i64 0]) (h4:fc w g4 t4 [.slice (some ⟨g2,0,none⟩) 2 2,.slice (some ⟨g3,0,none⟩) 2 2]):
  iz w (.agg (xC (zx d s h a b) (some ⟨g,0,none⟩) cp (some ⟨g4,0,none⟩) 2).toArray) (zx d s h a b):=by
 refine⟨_,_,rfl,?_,?_⟩
 ·refine⟨_,cp,rfl,hcp.1,hcp.2,fun _=>⟨g,0,rfl,hg,fun i x hx=> ?_⟩⟩
  match i,hx with
  |0,hx=>
   obtain rfl:acH s h=x:=by simpa[zx] using hx
   exact⟨.slice none 0 0,RS.none_ _ _,hc 0 _ rfl,hc 1 _ rfl,hc 2 _ rfl,hc 3 _ rfl,hc 4 _ rfl,hc 5 _ rfl,hc 6 _ rfl,hc 7 _ rfl⟩
  |i+1,hx=>simp[zx] at hx
 ·refine⟨_,2,rfl,ij _,by simp[maxLen],fun _=>⟨g4,0,rfl,h4.lt,fun i r hr=> ?_⟩⟩
  match i,hr with
  |0,hr=>
   obtain rfl:([0,a]:List Int)=r:=by simpa[zx] using hr
   exact⟨.slice (some ⟨g2,0,none⟩) 2 2,h2.gx (l:=[0,a]) rfl (ij _) (by simp[maxLen]),h4.cell 0⟩
  |1,hr=>
   obtain rfl:([b,0]:List Int)=r:=by simpa[zx] using hr
   exact⟨.slice (some ⟨g3,0,none⟩) 2 2,h3.gx (l:=[b,0]) rfl (ij _) (by simp[maxLen]),h4.cell 1⟩
  |i+2,hr=>simp[zx] at hr
theorem adk (days size hold there back:Int) (v1:Value) (l1:List Int) (m:Int) (w:World) (b0:tq days) (b1:tq size) (b2:tq hold) (b3:tq there) (b4:tq back) (h1:gx w .i64 v1 l1) (hm:w.cell? ⟨0,0,none⟩=some (.int .i64 m)):
  Calls Tryz.prog 4 #[.int .i64 days,.int .i64 size,.int .i64 hold,.int .i64 there,.int .i64 back,v1] w fun e w'=>e= .returned (.bool true)∧Below w.heap.size w w':=by
 have HM:=jA hm;have H1:=jA h1;obtain⟨Al,cl,rfl,-⟩:=h1.open_;have R0:=jA fun W=>pn days 64 W b0 (by decide);have R1:=jA fun W=>pn size 2147483648 W b1 (by decide);have R2:=jA fun W=>pn hold 1025 W b2 (by decide);have R3:=jA fun W=>pn there 1073741824 W b3 (by decide);have R4:=jA fun W=>pn back 1073741824 W b4 (by decide);have B0:=tc days (m:=64) (by decide);have B1:=tc size (m:=2147483648) (by decide);have B2:=tc hold (m:=1025) (by decide);have B3:=tc there (m:=1073741824) (by decide);have B4:=tc back (m:=1073741824) (by decide);clear b0 b1 b2 b3 b4 h1 hm;generalize py days 64=d at R0 B0;generalize py size 2147483648=s at R1 B1;generalize py hold 1025=ho0 at R2 B2;generalize py there 1073741824=a at R3 B3;generalize py back 1073741824=b at R4 B4;have HG:=jA (aeT (d:=1+d) (s:=1+s) (h:=ho0) (a:=a) (b:=b) (by omega) (by omega) (by omega) (by omega) (by omega));go_enter Tryz.func4,Tryz.ntmps4;go_wp2_with fail;refine(R0.out _).mono ?_;rintro e w' ⟨rfl,rfl⟩;go_upto_region 2 with fail
 obtain⟨x,hx⟩: ∃x,zx (1+d) (1+s) ho0 a b=x:=⟨_,rfl⟩;obtain⟨wA,hwA⟩: ∃W,w.alloc (.cells #[.int .i64 (1+d),.int .i64 1,.int .i64 2147483648,.int .i64 2147483648,.slice none 0 0,.slice none 0 0] 25)=W:=⟨_,rfl⟩;have hbA:Below w.heap.size w wA:=by rw[←hwA];exact bL (bS _ _) _
 have bx:fc wA w.heap.size 25 [.int .i64 (1+d),.int .i64 1,.int .i64 2147483648,.int .i64 2147483648,.slice none 0 0,.slice none 0 0]:=by rw[←hwA];exact fc.new _ _ _
 rw[hwA];clear hwA;go_wp2_with fail;refine(R1.out _).mono ?_;rintro e w' ⟨rfl,rfl⟩;go_wp2_with fail;refine(R2.out _).mono ?_;rintro e w' ⟨rfl,rfl⟩;go_upto_region 3 with fail
 obtain⟨wB,hwB⟩: ∃W,wA.alloc (.cells #[.int .i64 2,.int .i64 0,.slice none 0 0,.int .i64 1,.int .i64 (1+s),.int .i64 0,.int .i64 2,.int .i64 ho0] 47)=W:=⟨_,rfl⟩;have bc:fc wB wA.heap.size 47 [.int .i64 2,.int .i64 0,.slice none 0 0,.int .i64 1,.int .i64 (1+s),.int .i64 0,.int .i64 2,.int .i64 ho0]:=by rw[←hwB];exact fc.new _ _ _
 have hb2:Below wA.heap.size wA wB:=by rw[←hwB];exact bL (bS _ _) _
 have bxB:=bx.below hb2 bx.lt;have hbB:=hbA.trans (hb2.mono hbA.size);obtain⟨gc,hgc⟩: ∃k,k=wA.heap.size:=⟨_,rfl⟩;have hxc:w.heap.size <gc:=by rw[hgc];exact bx.lt
 rw[←hgc] at bc⊢;rw[hwB];clear hwB hb2 bx hbA hgc;have c4:=bc.c 4;have c5:=bc.c 5;have f5:=bc.frozen 5;have hlc:=bc.lt;go_upto_region 4 with fail
 have bcC:=bc.gH 5 (.int .i64 ((1+s)/2));have bxC:=bxB.kj (p:=⟨gc,5,none⟩) (by show w.heap.size≠gc;omega) (.int .i64 ((1+s)/2));have hbC:=hbB.setCell (p:=⟨gc,5,none⟩) (by show w.heap.size≤gc;omega) (.int .i64 ((1+s)/2));simp only[fI,fJ] at bcC;clear c4 c5 f5 bc bxB hbB hlc;obtain⟨wC,hwC⟩: ∃W,wB.setCell ⟨gc,5,none⟩ (.int .i64 ((1+s)/2))=W:=⟨_,rfl⟩;rw[hwC] at bcC bxC hbC⊢;clear hwC;have bc:=bcC;have bx:=bxC;clear bcC bxC;have hlc:=bc.lt;have x4:=bx.c 4;have hlx:=bx.lt;obtain⟨q0,q1,q2,q3,q4,q5,q6,q7,-⟩:=bc.iY;go_upto_region 5 with (at_builtin;refine iD wC rfl _ _ 22 rfl wC.heap.size 47 _ 8 80 Tryz.underlying22 XE rfl (by decide) (by decide) _ 0 [] (gL _ _ _ _) rfl (pL 0 none 0 0 (1+s) ((1+s)/2) ho0) _ rfl rfl rfl (by decide) (ij _) ?_;intro g cap w5 ho hg0 hgl hk hz;have hb5:=hk.below (ij _);have bx5:=bx.below hb5 bx.lt;have f4:=bx5.frozen 4;have x4:=bx5.c 4;have hlx:=bx5.lt)
 obtain⟨A,cp,e,hcp,hcm,-,hcc⟩:=RS.jh ho;cases e;replace hcc:=hcc (by decide);obtain⟨b',o',e,hgl',hcc⟩:=hcc;cases e;have HCC:Hid (∀(j:Nat) u,(pL 0 none 0 0 (1+s) ((1+s)/2) ho0)[j]? =some u→(w5.setCell ⟨w.heap.size,4,none⟩ (.slice (some ⟨g,0,none⟩) (0+1) cap)).cell? ⟨g,j,none⟩=some u):=jA fun j u hu=>by have:=hcc j u hu;rw[gW] at this;rw[oD (fX w5 w.heap.size 4 _ g (by omega))];exact this
 have hgx:w.heap.size <g:=bP bx.lt hg0;have HCP:=jA (And.intro hcp hcm);have bxD:=bx5.gH 4 (.slice (some ⟨g,0,none⟩) (0+1) cap);have bcD:=(bc.below hb5 bc.lt).kj (p:=⟨w.heap.size,4,none⟩) (by show gc≠w.heap.size;omega) (.slice (some ⟨g,0,none⟩) (0+1) cap);have hbD:=(hbC.trans (hb5.mono hbC.size)).setCell (p:=⟨w.heap.size,4,none⟩) (ij _) (.slice (some ⟨g,0,none⟩) (0+1) cap);have hgD:g <(w5.setCell ⟨w.heap.size,4,none⟩ (.slice (some ⟨g,0,none⟩) (0+1) cap)).heap.size:=by simpa[World.setCell] using hgl'
 simp only[fI,fJ] at bxD;clear ho hk hz q0 q1 q2 q3 q4 q5 q6 q7 x4 f4 hlx hlc hcc hg0 hcp hcm hgl' hgl bx5 hb5 bx bc hbC;obtain⟨wD,hwD⟩: ∃W,w5.setCell ⟨w.heap.size,4,none⟩ (.slice (some ⟨g,0,none⟩) (0+1) cap)=W:=⟨_,rfl⟩;rw[hwD] at HCC bxD bcD hbD hgD⊢;clear hwD;have bx:=bxD;have bc:=bcD;clear bxD bcD;have hlx:=bx.lt;obtain⟨wE,hwE,⟨bp,br,bd,-⟩,hbE,-⟩:=sk wD [(3,[.int .i64 0,.int .i64 a]),(3,[.int .i64 b,.int .i64 0]),(26,[.slice (some ⟨wD.heap.size,0,none⟩) 2 2,.slice (some ⟨wD.heap.size+1,0,none⟩) 2 2])];simp only[Hk] at hwE;have bxE:=bx.below hbE hlx;have f5:=bxE.frozen 5;have x5:=bxE.c 5;go_wp2_with fail;refine(R3.out _).mono ?_;rintro e w' ⟨rfl,rfl⟩;go_wp2_with fail;refine(R4.out _).mono ?_;rintro e w' ⟨rfl,rfl⟩;go_upto_region 6 with fail
 have bxF:=bxE.gH 5 (.slice (some ⟨wD.heap.size+1+1,0,none⟩) 2 2);simp only[fI,fJ] at bxF;obtain⟨cu,hcu⟩: ∃c,acH (1+s) ho0=c:=⟨_,rfl⟩;obtain⟨W6,hW6⟩: ∃W,wE.setCell ⟨w.heap.size,5,none⟩ (.slice (some ⟨wD.heap.size+1+1,0,none⟩) 2 2)=W:=⟨_,rfl⟩;obtain⟨gd,hgd⟩: ∃k,k=wD.heap.size+1+1:=⟨_,rfl⟩;have hcc6: ∀(j:Nat) u,(pL 0 none 0 0 (1+s) ((1+s)/2) ho0)[j]? =some u→W6.cell? ⟨g,j,none⟩=some u:=fun j u hu=>by rw[←hW6,oD (fX wE w.heap.size 5 _ g (by omega))];exact a7 hbE (ij _) (HCC.out j u hu)
 have agd: ∀{k:Nat} {t:TypeId} {cs:List Value},fc wE k t cs→w.heap.size <k→fc W6 k t cs:=fun h hk=>by rw[←hW6];exact h.kj (p:=⟨w.heap.size,5,none⟩) (by show _≠w.heap.size;omega) _
 have bx6:fc W6 w.heap.size 25 (xC x (some ⟨g,0,none⟩) cap (some ⟨gd,0,none⟩) 2):=by rw[←hW6,←hx,hgd];exact bxF
 have bc6:fc W6 gc 47 (pL 0 none 0 0 cu.size cu.start cu.hold):=by rw[←hcu];exact agd (bc.below hbE bc.lt) hxc
 have bp6:=agd bp hlx;have br6:=agd br (by omega);have bd6:=agd bd (by omega);have hb6:Below w.heap.size w W6:=by rw[←hW6];exact(hbD.trans (hbE.mono hbD.size)).setCell (p:=⟨w.heap.size,5,none⟩) (ij _) _
 have hg6:g <W6.heap.size:=by rw[←hW6];have:=hbE.size;simp[World.setCell];omega
 have HY:Hid (iz W6 (.agg (xC x (some ⟨g,0,none⟩) cap (some ⟨gd,0,none⟩) 2).toArray) x):=jA (by rw[←hx,hgd];exact ad3 hg6 HCP.out hcc6 bp6 br6 bd6);have HF:=jA (aeS HG.out);rw[hx,hcu] at HG;rw[hx] at HF;have hda:sm x.gn 0 1=a∧sm x.gn 1 0=b:=by rw[←hx];exact⟨rfl,rfl⟩
 rw[←hgd] at bd6;obtain⟨ga,hga⟩: ∃k,k=wD.heap.size:=⟨_,rfl⟩;obtain⟨gb,hgb⟩: ∃k,k=wD.heap.size+1:=⟨_,rfl⟩;rw[←hgb] at br6 bd6;rw[←hga] at bp6 bd6;rw[hW6];have HX:=jA hx;clear hW6 hwE hx hcu hgd hcc6 agd bxF bxE bp br bd hbE hlx f5 x5 HCC HCP hgD hbD bx bc hgx hg6 hga hgb;obtain⟨k0,k1,k2,k3,k4,k5⟩:=bx6.jI;have hlx:=bx6.lt;go_wp2_with fail;refine(Jm _ x _ HY.out HF.out.wf HF.out.may (by have:=HF.out.Ik;omega) (by have:=HF.out.text;omega)).mono ?_;rintro e w7 ⟨rfl,hb7⟩;obtain⟨sa,hsa,-,hsd⟩:=sR (na x);rw[hsa];clear hsa k0 k1 k2 k3 k4 k5;go_wp2_with fail;refine(Gn l1 _ _ (H1.out.below (kB hb6 hb7) (ij _))).mono ?_;rintro e w8 ⟨⟨z1,z2,z3,nv,p1,p2,p3,p4,p5,p6,rfl,hnv⟩,hb8⟩;have hbb:=kB (kB hb6 hb7) hb8;have hpx:kU sa.data.toList=(x,0):=by rw[hsd];exact I3 HF.out.wf HF.out.may
 have HPL:=jA (Fi cu a b sa m nv (Bf l1) (kO z1 0 1000) (kO z2 0 1000) (kO z3 0 1000) w8 (fun W hW=>LH _ _ _ _ nv W (hnv.below hW (ij _))) (by unfold kO;omega) (by unfold kO;omega) (by rw[k9 hsd];have:=HF.out.text;omega) (by rw[hsd];exact KB HF.out) (a7 hbb (ij _) HM.out) (fun _=>by rw[hpx];exact HG.out));rw[hpx] at HPL;have h68:=kB hb7 hb8;obtain⟨An,cn,rfl,-⟩: ∃An cn,nv= .slice An 4 cn∧True:=by obtain⟨An,cn,e,-⟩:=hnv.open_;exact⟨An,cn,e,trivial⟩
 clear hnv hb7 hb8 hsd hpx hbb;go_wp2_with fail;refine HPL.out.mono ?_;rintro e w9 ⟨o,bb,co,ho,dv,pv,rfl,hb9,-,hrep⟩;obtain⟨rfl,rfl,q,hq,hrd,rfl,Ak,nk,ck,rfl⟩:=hrep rfl;obtain⟨Ad,cd,rfl,-⟩:=jP.open_ hrd;have HLK:=jA (iF.aeY HG.out hq hrd);have HQ:=jA hq;have HCO:=jA (HG.out.cost hq);have h69:=kB h68 hb9;dsimp only at HCO HLK⊢;obtain⟨P,hP⟩: ∃P,ep q=P:=⟨_,rfl⟩;rw[hP] at HLK HCO⊢;have HP:=jA hP;obtain⟨K,hK⟩: ∃K,xj x P=K:=⟨_,rfl⟩;obtain⟨V,hV⟩: ∃V,pe x cu a b=V:=⟨_,rfl⟩;rw[hK,hV] at HCO⊢;clear hP hK hV hrd hq HPL hrep h68 hb9;have bR:=fc.new w9 32 (uR 4 V K ho (.slice Ak nk ck) (.slice Ad P.length cd));have hal:=bL (bS w9.heap.size w9) (.cells (uR 4 V K ho (.slice Ak nk ck) (.slice Ad P.length cd)).toArray 32);go_upto_region 7 with fail
 have hRD:=jP.below HLK.out.rd hal (ij _);have h6R:=kB h69 hal;obtain⟨gr,hgr⟩: ∃k,k=w9.heap.size:=⟨_,rfl⟩;rw[←hgr] at bR⊢;clear hal hgr h69;obtain⟨wR,hwR⟩: ∃W,w9.alloc (.cells #[.int .i64 4,.int .i64 V,.int .i64 K,.int .i64 ho,.slice Ak nk ck,.slice Ad P.length cd] 32)=W:=⟨_,rfl⟩;rw[show w9.alloc (.cells (uR 4 V K ho (.slice Ak nk ck) (.slice Ad P.length cd)).toArray 32)=wR from hwR] at bR hRD h6R;rw[hwR];clear hwR;have HRD:=jA hRD;have hr:=bR.iY;simp only[im,Nat.reduceAdd] at hr;have hlr:=bR.lt;clear hRD;go_wp2_with fail;refine(Jo _ P 0 wR HRD.out HLK.out.Ik).mono ?_;rintro e wV ⟨lv,rfl,hV2,hbV⟩;have h6V:=kB h6R hbV;have bR2:=bR.below hbV hlr;have hvm:=UQ HLK.out.dy 0;have hvo:=Og HLK.out.dy 0;rw[←HP.out,adG] at hV2 hvm hvo;have HH:=jA (HG.out.held HQ.out);have HBV:=jA (acd (q:=q) HQ.out.bd (n:=x.days.toNat) (by have:=HQ.out.len;omega));have hl64:(gg q).length≤64:=by have:=px q 0;have:=HQ.out.len;have:=HG.out.hd;unfold gg;omega
 obtain⟨L,hL⟩: ∃L,gg q=L:=⟨_,rfl⟩;rw[hL] at hV2 hvm hvo HCO HBV hl64;obtain⟨Av,cv,rfl,-⟩:=hV2.slice;have HV2:=jA hV2.reads;have hct:=HG.out.ct;have hst:=HG.out.start;have hdd:=HG.out.hd;have hab:=HG.out.ab;have HBR:Hid (∀(W:World) (v:Value),RL 2 iH W v L→Calls Tryz.prog 14 #[v,.int .i64 x.days] W fun e w'=> ∃lv,e= .returned lv∧OI W.heap.size w' lv q∧Below W.heap.size W w'):=jA fun W v h=>by
  have k:=Ja v L x.days.toNat W h hvm (by omega) hvo;rw[HBV.out] at k
  rwa [show((x.days.toNat:Nat):Int)=x.days by omega] at k
 have HNI:=jA fun(v:Value) (W:World) h=>Jg 2 0 none 0 0 1 cu.size cu.start 2 cu.hold v q W h (by have:=HQ.out.len;omega) hst (by omega) (by decide) HQ.out.ok;obtain⟨N,hN⟩: ∃N,sL 1 cu.size cu.start q=N:=⟨_,rfl⟩;rw[hN] at HNI HH;obtain⟨HE,hHE⟩: ∃z,sy cu q=z:=⟨_,rfl⟩;rw[hHE] at HH HCO;have HHL:=jA fun(v:Value) (W:World) h=>On 2 0 (.slice none 0 0) 1 cu.size cu.start 2 cu.hold v N W ⟨_,_,_,rfl⟩ h;rw[HH.out.1] at HHL;obtain⟨AB,hAB⟩: ∃z,a+b=z:=⟨_,rfl⟩;rw[hAB] at HCO;obtain⟨LAB,hLAB⟩: ∃z,(L.length:Int)*AB=z:=⟨_,rfl⟩;rw[hLAB] at HCO;have HBA:=jA fun W h=>aeG HG.out (A1:=some ⟨g,0,none⟩) (c1:=cap) (A2:=some ⟨gd,0,none⟩) (c2:=2) W h;have hcf:=TT a (dd cu x.days);have hfb:=HG.out.fb;have hbn:0≤a*dd cu x.days:=eS hab.1.1 hfb.1;rw[←hcf] at HCO;obtain⟨BB,hBB⟩: ∃z,a*dd cu x.days=z:=⟨_,rfl⟩;rw[hBB] at HCO HBA hbn;obtain⟨g1,⟨g2,g3⟩,g4,g5⟩:=HCO.out;have e1:IntKind.i64.wrap (a+b)=AB:=by rw[hAB,jB];omega
 have hln:0≤LAB:=by rw[←hLAB];exact eS (by omega) (by omega)
 have hhe:=HH.out.2.1;have e2:IntKind.i64.wrap ((L.length:Int)*AB)=LAB:=by rw[hLAB,jB];omega
 have e3:IntKind.i64.wrap (HE+LAB)=K:=by rw[jB];omega
 have dl0:0 <x.gn.length:=by rw[HG.out.di];simp
 have dl1:(1:Int) <x.gn.length:=by rw[HG.out.di];simp
 have c1:decide (V≤K)=true:=decide_eq_true (by omega);have c2:decide (0≤V)=true:=decide_eq_true g2;have c3:decide (BB≤V)=true:=decide_eq_true g4;have C123:=jA (And.intro c1 (And.intro c2 c3));have E123:=jA (And.intro e1 (And.intro e2 e3));have DL:=jA (And.intro dl0 dl1);have hb6V:=hb6.trans (h6V.mono hb6.size);have bx7:=bx6.below h6V bx6.lt;have bc7:=bc6.below h6V bc6.lt;have bp7:=bp6.below h6V bp6.lt;have br7:=br6.below h6V br6.lt;have bd7:=bd6.below h6V bd6.lt;have HY7:=jA (HY.out.below h6V (ij _));clear c1 c2 c3 e1 e2 e3 dl0 dl1 g1 g2 g3 g4 g5 hhe hln hbn hcf hfb hBB hLAB hAB hHE hN hab hdd hst hct hL hl64 hvm hvo hV2 bx6 bc6 bp6 br6 bd6 hb6 bR hr hlr hlx h6R hbV HY HBV HQ HLK HRD HP HF h6V hda;clear B0 B1 B2 B3 B4 R0 R1 R2 R3 R4 hxc;go_upto_region 10 with fail
 have y:=bc7.iY;simp only[im,Nat.reduceAdd] at y;have y0:=bx7.c 0;have hly:=bc7.lt;have hlx:=bx7.lt;refine rB [] fun hS=> ?_;refine tk 0 hS ?_;refine tk 1 hS ?_;refine tk 2 hS ?_;refine tk 3 hS ?_;refine tO 4 fun K hK=> ?_;go_simp;refine(HBR.out _ _ (fQ.below HV2.out hS (ij _))).mono ?_;rintro e w10 ⟨lq,rfl,hq7,hb10⟩;obtain⟨Aq,cq,rfl,-⟩:=hq7.slice;have HQ7:=jA hq7.reads;have hS:=hS.trans (hb10.mono hS.size);clear hq7 hb10;refine hK.out _ _ (hS) ?_;clear hK K;refine tO 5 fun K hK=> ?_;go_simp;refine(HNI.out _ _ HQ7.out).mono ?_;rintro e w11 ⟨u,rfl,hu,hb11⟩;obtain⟨Au,cu',rfl,-⟩:=hu.open_;have HU:=jA hu;have hS:=hS.trans (hb11.mono hS.size);clear hu hb11;refine hK.out _ _ (hS) ?_;clear hK K;refine tk 6 hS ?_;refine tk 7 hS ?_;refine tk 8 hS ?_;refine tk 9 hS ?_;refine tk 10 hS ?_;refine tD ?_;have bx8:=bx7.below hS hlx;have bc8:=bc7.below hS hly;have bp8:=bp7.below hS bp7.lt;have br8:=br7.below hS br7.lt;have bd8:=bd7.below hS bd7.lt;have bR8:=bR2.below hS bR2.lt;have HY8:=jA (HY7.out.below hS (ij _));have hb8:=hb6V.trans (hS.mono hb6V.size);clear bx7 bc7 bp7 br7 bd7 bR2 HY7 hS y y0 hlx hly hb6V HBR HNI HQ7 HV2;have y:=bc8.iY;simp only[im,Nat.reduceAdd] at y;have x5:=bx8.c 5;have z0:=bd8.c 0;have z1':=bd8.c 1;have u1:=bp8.c 1;have v0:=br8.c 0;have hly:=bc8.lt;have hlx:=bx8.lt;have hlp:=bp8.lt;have hlq:=br8.lt;have hld:=bd8.lt;obtain⟨dl0,dl1⟩:=DL.out;obtain⟨e1,e2,e3⟩:=E123.out;go_upto_region 11 with fail
 refine rB [] fun hS=> ?_;refine tk 0 hS ?_;refine tk 1 hS ?_;refine tk 3 hS ?_;refine tk 4 hS ?_;refine tk 5 hS ?_;refine tk 6 hS ?_;refine tk 7 hS ?_;refine tk 8 hS ?_;refine tk 9 hS ?_;refine tk 10 hS ?_;refine tk 11 hS ?_;refine tk 12 hS ?_;refine tk 13 hS ?_;refine tk 14 hS ?_;refine tk 15 hS ?_;refine tk 16 hS ?_;refine tk 17 hS ?_;refine tk 18 hS ?_;refine tO 2 fun K hK=> ?_;go_simp;refine(HHL.out _ _ (gx.below HU.out hS (ij _))).mono ?_;rintro e w12 ⟨rfl,hb12⟩;have hS:=hS.trans (hb12.mono hS.size);clear hb12;refine hK.out _ _ (hS) ?_;clear hK K;refine tk 19 hS ?_;refine tk 20 hS ?_;refine tD ?_;clear e1 e2 e3;have bx9:=bx8.below hS hlx;have bR9:=bR8.below hS bR8.lt;have HY9:=jA (HY8.out.below hS (ij _));have hb9:=hb8.trans (hS.mono hb8.size);clear bx8 bc8 bp8 br8 bd8 bR8 HY8 hS y x5 z0 z1' u1 v0 hly hlx hlp hlq hld hb8 HHL HU dl0 dl1 DL E123;obtain⟨c1,c2,c3⟩:=C123.out;have hr:=bR9.iY;simp only[im,Nat.reduceAdd] at hr;obtain⟨k0,k1,k2,k3,k4,k5⟩:=bx9.jI;have hlr:=bR9.lt;have hlx:=bx9.lt;go_upto_region 12 with fail
 refine rB [] fun hS=> ?_;refine tk 0 hS ?_;refine tk 1 hS ?_;refine tk 2 hS ?_;refine tkG 3 hS ?_;refine tkG 4 hS ?_;refine tkG 5 hS ?_;refine tkG 6 hS ?_;refine tk 7 hS ?_;refine tk 8 hS ?_;refine tkG 9 hS ?_;refine tkG 10 hS ?_;refine tkG 11 hS ?_;refine tkG 12 hS ?_;refine tk 13 hS ?_;refine tk 14 hS ?_;refine tkG 15 hS ?_;refine tkG 16 hS ?_;refine tkG 17 hS ?_;refine tk 18 hS ?_;refine tk 19 hS ?_;refine tkG 20 hS ?_;refine tkG 22 hS ?_;refine tkG 23 hS ?_;try simp only[Act.put,gK,fJ,fI]
 refine BD 21 rfl (by rfl) (by kernel_rfl) (fun K hK=> ?_);go_simp;refine(HBA.out _ (HY9.out.below hS (ij _))).mono ?_;rintro e w13 ⟨rfl,hb13⟩;have hS:=hS.trans (hb13.mono hS.size);clear hb13;refine hK.out _ _ (hS) ?_;clear hK K;refine tkG 24 hS ?_;refine tk 25 hS ?_;refine tk 26 hS ?_;try simp only[Act.put,gK,fJ,fI]
 refine BD 27 rfl (by rfl) (by kernel_rfl) (fun K hK=> ?_);go_simp;refine(Ew m _ (a7 (hb9.trans (hS.mono hb9.size)) (ij _) HM.out)).mono ?_;rintro e w14 ⟨rfl,hb14⟩;have hS:=hS.trans (hb14.mono hS.size);clear hb14;refine hK.out _ _ (hS) ?_;clear hK K;refine tk 28 hS ?_;refine tk 29 hS ?_;refine tD ?_;go_wp2_with fail;go_ret;exact⟨rfl,hb9.trans (hS.mono hb9.size)⟩
end
end Go.Proofs.YtgimnjldndkalaaGreatDoor
