/- Of the proof of TopCosts: The planner: its steps' state, and how it parses. -/
import Derived.Test.YtgimnjldndkalaaGreatDoorF48
import Derived.Test.YtgimnjldndkalaaGreatDoorF37
import Derived.Test.YtgimnjldndkalaaGreatDoorF41
import Derived.Test.YtgimnjldndkalaaGreatDoorF44
set_option linter.all false
set_option maxHeartbeats 8000000
set_option maxRecDepth 100000
namespace Go.Proofs.YtgimnjldndkalaaGreatDoor
variable {w w':World}
section
open Go.Proofs.Tryz
open Go Go.RowKit ue jm uf ko kN Ra
abbrev Xp (s:ByteArray) (a b c d:Int) (i0 i1 i2 i3 i4 i5:Value) (o bd co ho:Int) (dv pv:Value):List Value:=[.string s,a,b,c,d,i0,i1,i2,i3,i4,i5,o,bd,co,ho,dv,pv]
def ET (w:World) (g i:Nat) (v:Value):w.grownBy (w.setCell (pA g i) v) (some g):=
 ⟨rfl,rfl,rfl,by simp[World.setCell],fun b _ a=>heap_setCell_other w (pA g i) b v fun e=>a (by rw[e])⟩
structure wh (w0:World) (g:Nat) (cs:List Value) (w:World):Prop where
 gr:w0.grownBy w (some g)
 bl:fc w g 73 cs
section
variable {w0:World} {g:Nat} {cs:List Value}
def wh.trans (h:wh w0 g cs w) {a:List Value} (k:wh w g a w'):wh w0 g a w':=⟨h.gr.trans k.gr,k.bl⟩
def wh.put (h:wh w0 g cs w) (i:Nat) (v:Value):wh w0 g (cs.set i v) (w.setCell (pA g i) v):=⟨h.gr.trans (ET w g i v),h.bl.gH i v⟩
def wh.below (h:wh w0 g cs w) (n:Below w w w'):wh w0 g cs w':=⟨h.gr.trans (mY n _),h.bl.below n h.bl.lt⟩
def wh.rC (h:wh w0 g cs w) {G:List Nat} (a:jM G w0):jM G w:=fun b n=>by
 by_cases e:b=g
 ·subst e;exact⟨_,_,h.bl⟩
 ·obtain⟨t,cs,k⟩:=a b n;exact⟨t,cs,k.grown h.gr (by simpa using e)⟩
def wh.alloc (h:wh w0 g cs w) (o:Obj):wh w0 g cs (w.alloc o):=h.below (bF.alloc lE o)
end
abbrev zI:Value:=.int .i64 0
abbrev nS:Value:=.slice none 0 0
def I0 (g:Nat) (i:ByteArray) (m a b c d:Int) (w:World) (n:fc w g 73 (Xp i a b c d zI zI zI zI nS nS 0 0 0 0 nS nS))
  (q:i.size<=1000000) (A: ∀l∈uK i.data.toList,l.length<=1000) (C:w.cell? (pB 0)=some m):
  Calls prog 26 #[.pointer g] w fun e w'=>e=.returned (kU i.data.toList).2/\
   ((kU i.data.toList).2=0-> ∃A1 c1 A2 c2,wh w g (Xp i a b c d (kU i.data.toList).1.days (kU i.data.toList).1.mm (kU i.data.toList).1.cap (kU i.data.toList).1.len (.slice A1 (kU i.data.toList).1.eB.length c1) (.slice A2 (kU i.data.toList).1.gn.length c2) 0 0 0 0 nS nS) w'/\PX w w' (.agg (xC (kU i.data.toList).1 A1 c1 A2 c2).toArray) (kU i.data.toList).1)/\
   ((kU i.data.toList).2≠0-> ∃o,((kU i.data.toList).2=2->o=1)/\o<=2/\wh w g (Xp i a b c d zI zI zI zI nS nS o 0 0 0 nS nS) w'):=by
 obtain⟨p,E⟩:=Zb (Lv i m w q A C) (wh.mk (nG w (some g)) n);have c0:=n.c 0;have j:=n.lt;generalize kU i.data.toList=X at p|-
 obtain⟨x,z⟩:=X;dsimp only at p|-
 clear q A C n;go_enter func26,ntmps26;go_wp2_with fail;refine p.mono ?_;rintro e P ⟨v,rfl,u,t⟩;have y:=u.WB;obtain⟨A1,c1,A2,c2,rfl⟩:=u.reads.agg;have k:=zH (E.below t);have B:=k.bl.lt;have D:=zH (PX.of y);have f:=k.bl;have H:=f.iY;simp only[im,Nat.reduceAdd] at H;have J:=f.frozen 5;have K:=f.frozen 6;have L:=f.frozen 7;have M:=f.frozen 8;have N:=f.frozen 9;have F:=f.frozen 10;have G:=f.frozen 11;clear y u f;by_cases r:z=0
 ·subst r;go_wp2_with fail;go_ret;refine⟨rfl,A1,c1,A2,c2,?_,?_⟩
  ·exact((((((k.put 5 _).put 6 _).put 7 _).put 8 _).put 9 _).put 10 _).alloc _
  ·exact((((((D.put j 5 _).put j 6 _).put j 7 _).put j 8 _).put j 9 _).put j 10 _).alloc _
 ·have O:(z==0)=false:=by simp[r]
  by_cases s:z=2
  ·subst s;go_wp2_with fail;go_ret;exact⟨rfl,(k.put 11 (.int .i64 1)).alloc _⟩
  ·have I:(z==2)=false:=by simp[s]
   go_wp2_with fail;go_ret
   exact⟨rfl,fun h=>absurd h r,fun _=>⟨2,fun h=>absurd h s,by decide,(k.put 11 (.int .i64 2)).alloc _⟩⟩
end
section
open Go.Proofs.Tryz
open Go Go.RowKit ue jm uf ko kN Ra
abbrev Hc (s:ByteArray) (a b c d:Int) (x:fS) (A1:Option Addr) (c1:Nat) (A2:Option Addr) (c2:Nat) (o bd co ho:Int) (dv pv:Value):List Value:=
 Xp s a b c d x.days x.mm x.cap x.len (.slice A1 x.eB c1) (.slice A2 x.gn c2) o bd co ho dv pv
section
variable {x:fS} {G:List Nat} {dv:Value} {p:Pl}
theorem oJ.below (h:oJ x G w dv p) (a:jM G w) (b:Below w w w'):oJ x G w' dv p:=⟨h.rd.below a b,h.len,h.dy⟩
theorem oJ.put (h:oJ x G w dv p) (a:jM G w) {g:Nat} (B:g∈G) (i:Nat) (u:Value):oJ x G (w.setCell (pA g i) u) dv p:=⟨h.rd.put a B i u,h.len,h.dy⟩
theorem oJ.look (h:oJ x G w dv p) (hx:ga x) (a:jM G w):tj x.eB w dv p:=⟨h.rd.reads a,by have:=h.len;have:=hx.head;omega,fun d q=>(h.dy d q).1⟩
end
variable {x:fS} (hx:ga x) (g:Nat) (s:ByteArray) (a b c d:Int) (A1:Option Addr) (c1:Nat) (A2:Option Addr) (c2:Nat)
include hx
theorem Hz (w:World) (k:fc w g 73 (Hc s a b c d x A1 c1 A2 c2 0 0 0 0 nS nS)) {n:Nat} (m:g<n) (z:PX n w (.agg (xC x A1 c1 A2 c2).toArray) x) (A:kP a) (q:kP d):
  Calls prog 27 #[.pointer g] w fun e w'=>e=.returned Zo/\ ∃E,wh w g (Hc s a b c d x A1 c1 A2 c2 3 E 0 0 nS nS) w'/\PX n w' (.agg (xC x A1 c1 A2 c2).toArray) x:=by
 obtain⟨o,i,C,D⟩:=Zd (wh.mk (nG w (some g)) k) z A q;have B:=k.lt;have c11:=k.c 11;have t:=k.frozen 11;clear k z A q;go_enter func27,ntmps27;go_upto_region 2 with fail
 obtain⟨f,h⟩:=Zb (o.put 11 (.int .i64 3)) (i.put m 11 (.int .i64 3));revert f h;generalize w.setCell (pA g 11) (.int .i64 3)=w1;intro f h;clear o i c11 t;obtain⟨o,i⟩:=Zb (f.below (bF.drew)) (h.below (bF.drew));refine rG (fun wS=>fc wS g 73 (Hc s a b c d x A1 c1 A2 c2 3 0 0 0 nS nS)) [22] (f.bl) fun hS=>?_;refine kL [0,1,2,3,4,5,6,7,8,9,10,11,12,13,14] ?_;refine tO 15 fun K v=>?_;go_simp;refine(ND hx i.reads C D).mono ?_;rintro e G ⟨u,y,rfl,l⟩;obtain⟨j,p⟩:=Zb (o.below l) (i.below l);have hS:=j.bl;have r:=hS.cell 12;have F:=hS.frozen 12;simp only[fI,fJ,fD,fK] at r;refine v _ _ (hS) ?_;refine kL [16,17,18,19,20,21] ?_;refine tL 22 fun K v=>?_;go_simp;refine v _ _ ?_;refine tD ?_;go_wp2_with fail;go_ret;exact⟨rfl,y,j.put 12 y,p.put m 12 y⟩
end
section
open Go.Proofs.Tryz
open Go Go.RowKit ue jm uf ko kN Ra
theorem wh.kj {w0 w:World} {g:Nat} {cs:List Value} (h:wh w0 g cs w) {k:Nat} (a:g≠k) (b:w0.heap.size<=k) (u:Value):wh w0 g cs (w.setCell k u):=
 ⟨h.gr.andThen (ET w k 0 u) (fun j e=>by cases e;exact .inl b),h.bl.kj a u⟩
variable {x:fS} (hx:ga x) (g:Nat) (s:ByteArray) (a b c d:Int) (A1:Option Addr) (c1:Nat) (A2:Option Addr) (c2:Nat)
include hx
theorem KA (L:Int) (w:World) (S:fc w g 73 (Hc s a b c d x A1 c1 A2 c2 3 L 0 0 nS nS)) {n:Nat} (V:g<n) (hn:n<=w) (hP:PX n w (.agg (xC x A1 c1 A2 c2).toArray) x) {G:List Nat} (T:g∈G) (hG: ∀b∈G,b<n) (hB:jM G w) (hr:kP b) (hq:kP c):
  Calls prog 28 #[.pointer g] w fun e w'=> ∃z:Int,e=.returned z/\PX n w' (.agg (xC x A1 c1 A2 c2).toArray) x/\
   (z≠0->wh w g (Hc s a b c d x A1 c1 A2 c2 3 L 0 0 nS nS) w')/\(z=0-> ∃l m c' p,wh w g (Hc s a b c d x A1 c1 A2 c2 4 L 0 0 nS (.slice l m c')) w'/\oJ x G w' (.slice l m c') p/\PO x p):=by
 obtain⟨J,C,HQ,HR,X,B,HG⟩:=Zg (wh.mk (nG w (some g)) S) hP hq hr hx hB hG;have hg:=S.lt;clear hP hr hq hx hB hG;go_enter func28,ntmps28;go_upto_region 1 with fail
 go_cut [3,4] from 6 to 17 (fun pv ev Y=> ∃(M:Nat) (l:Option Addr) (m c':Nat) (y:Int),pv=.pointer M/\ev=.int .i64 y/\g≠M/\fc Y M 30 [.slice l m c']/\Hid (wh w g (Hc s a b c d x A1 c1 A2 c2 3 L 0 0 nS nS) Y)/\Hid (PX n Y (.agg (xC x A1 c1 A2 c2).toArray) x)/\Hid (y=0-> ∃p,oJ x G Y (.slice l m c') p))
 case first=>
  have af:=C;obtain⟨A,v⟩:=Zb (J.below (bF.drew)) (C.below (bF.drew));refine rG (fun wS=>fc wS g 73 (Hc s a b c d x A1 c1 A2 c2 3 L 0 0 nS nS)) [14] (S) fun hS=>?_;clear J C S;refine kL [0,1,2,3,4,5,6,7] ?_;refine pU ?_;refine mL 8 12 rfl rfl rfl rfl kR (fun K f=>?_) (fun K f=>?_)
  ·go_simp;refine(PX.search (s:=a) (z:=d) X.out v.out (G:=G) bF (fun b q=>by have:=HG.out b q;exact⟨by show b<w.heap.size;omega,.inl this⟩) HQ.out HR.out).mono ?_;rintro e F ⟨l,m,c',y,rfl,hf,o⟩;obtain⟨j,O⟩:=Zb (A.below o) (v.below o);have hS:=j.bl;have ah:=hS.lt;refine f _ _ (hS) ?_;refine kL [9,10,11] ?_;refine tO 12 fun K f=>?_;go_simp;have r:=fc.new F 30 [nS];have hS:=(j.alloc (cB 30 [nS])).bl;have v0:=r.c 0;have v1:=r.frozen 0;refine f _ _ (hS) ?_;refine tO 13 fun K f=>?_;go_simp;have hS:=(j.alloc (cB 30 [.slice l m c'])).bl;refine f _ _ (hS) ?_;refine tL 14 fun K f=>?_;go_simp;refine f _ _ ?_;refine tD ?_;go_wp2_with fail;go_meet;exact⟨F,l,m,c',y,rfl,rfl,oG,fc.new F _ _,(j.alloc _),(O.alloc _),fun h=>(hf h).imp fun p k=>oJ.below k (j.rC B) (bL (bS F F) _)⟩
  ·go_simp;have r:fc (w.drew.alloc (cB 30 [nS])) w 30 [nS]:=fc.new w.drew _ _;have A:=zH (A.alloc (cB 30 [nS]));have ae:=v;have v:=zH (v.alloc (cB 30 [nS]));have hS:=A.bl;have aw:g<w.drew.heap.size:=hg;refine f _ _ (hS) ?_;refine tO 8 fun K f=>?_;have aa:Hid (∀b∈w.heap.size::G,b<(w.drew.alloc (cB 30 [nS])).heap.size/\(b<n\/w.drew.heap.size<=b)):=zH fun b q=>by
    rcases fC.1 q with rfl|q
    ·exact⟨r.lt,.inr lE⟩
    ·have:=HG.out b q;exact⟨by simp;omega,.inl this⟩
   go_simp;refine(PX.search (s:=a) (z:=d) X ae (G:=w.heap.size::G) (bL bF _) aa HQ HR).mono ?_;rintro e F ⟨l,m,c',y,rfl,hf,o⟩;obtain⟨j,O⟩:=Zb (A.below o) (v.below o);have hS:=j.bl;have ah:=hS.lt;have r:=r.below o r.lt;have v0:=r.c 0;have v1:=r.frozen 0;have lv:=r.lt;refine f _ _ (hS) ?_;refine kL [9,10,11] ?_;refine tO 13 fun K f=>?_;go_simp;have i:=zH (j.kj (k:=w.heap.size) dO lE (.slice l m c'));have hS:=i.bl;refine f _ _ (hS) ?_;refine tL 14 fun K f=>?_;go_simp;refine f _ _ ?_;refine tD ?_;go_wp2_with fail;go_meet;have ai:jM (w.heap.size::G) F:=fun b q=>by
    rcases fC.1 q with rfl|q
    ·exact⟨_,_,r⟩
    ·exact j.rC B b q
   have ag:Below w w (F.setCell w (.slice l m c')):=((bF.drew.alloc lE _).trans (o.mono sI)).setCell (p:=w) lE _;exact⟨w,l,m,c',y,rfl,rfl,oG,r.gH 0 _,i,(af.below ag),fun h=>(hf h).imp fun p k=>⟨(k.rd.put ai (.head _) 0 (.slice l m c')).XU (fun b q=>by
    rcases fC.1 q with rfl|q
    ·exact⟨_,_,r.gH 0 (.slice l m c')⟩
    ·exact i.rC B b q) (fun b q=>.tail _ q),k.len,k.dy⟩⟩
 case rest=>
  obtain⟨M,l,m,c',y,rfl,rfl,U,D,i,I,N⟩:=hcut;clear J C S;by_cases hy:y=0
  ·subst hy;obtain⟨p,hp⟩:=N rfl;have Z:=zH hp;have ay:=i.bl.lt;have aj:=D.lt;clear N hp;go_upto_region 4 with fail
   obtain⟨A,v,H⟩:=Zc (i.below (bF.drew)) (I.below (bF.drew)) (Z.below (i.rC B) (bF.drew));refine rG (fun wS=>fc wS g 73 (Hc s a b c d x A1 c1 A2 c2 3 L 0 0 nS nS)/\fc wS M 30 [.slice l m c']) [6] (⟨i.bl,D⟩) fun hS=>?_;refine kL [0,1,2,3,4] ?_;refine tO 5 fun K f=>?_;go_simp;refine(RY X _ _ p _ (H.look X (A.rC B)) v.reads).mono ?_;rintro e w5 ⟨z,rfl,hz,u⟩;obtain⟨t,P,Z⟩:=Zc (A.below u) (v.below u) (H.below (A.rC B) u);have E:=fc.below D.drew u aj;refine f _ _ (⟨t.bl,E⟩) ?_;refine tL 6 fun K f=>?_;go_simp;refine f _ _ ?_;refine tD ?_;have HZ:=zH hz;clear A v H i I hS D hz u;by_cases W:z=0
   ·subst W;have Q:=t.bl;have c11:=Q.c 11;have ak:=Q.frozen 11;have c16:=Q.c 16;have aq:=Q.frozen 16;have l5:=Q.lt;have az:=E.lt;go_upto_region 7 with fail
    refine rG (fun wS=>fc wS M 30 [.slice l m c']) [] (E) fun hS=>?_;refine kL [0,1,2,3,4,5] ?_;refine tO 6 fun K f=>?_;go_simp;have R:=E.drew.kj (p:=pA g 11) (jN U) (.int .i64 4);have hS:=R;refine f _ _ (hS) ?_;refine kL [7,8,9] ?_;refine tO 10 fun K f=>?_;go_simp;have hS:=R.kj (p:=pA g 16) (jN U) (.slice l m c');refine f _ _ (hS) ?_;refine tD ?_;go_wp2_with fail;go_ret;have e0:=t.below (bF.drew);have e1:=e0.put 11 (.int .i64 4);have e2:=(Z.below (t.rC B) (bF.drew)).put (e0.rC B) T 11 (.int .i64 4);exact⟨0,rfl,((P.below (bF.drew)).put V 11 _).put V 16 _,fun h=>absurd rfl h,fun _=>⟨l,m,c',e1.put 16 _,p,e2.put (e1.rC B) T 16 _,HZ trivial⟩⟩
   ·go_wp2_with fail;go_ret
    exact⟨z,rfl,P,fun _=>t,fun h=>absurd h W⟩
  ·go_wp2_with fail;go_ret
   exact⟨y,rfl,I,fun _=>i,fun h=>absurd h hy⟩
end
section
open Go.Proofs.Tryz
open Go Go.RowKit ue jm uf ko kN Ra
def I7 {x:fS} (Z:ga x) (g:Nat) (s:ByteArray) (a b c d:Int) (A1:Option Addr) (c1:Nat) (A2:Option Addr) (c2:Nat) (M:Int) (z:Option Addr) (H c':Nat) (p:Pl) (w:World) (Y:fc w g 73 (Hc s a b c d x A1 c1 A2 c2 4 M 0 0 nS (.slice z H c')))
  {n:Nat} (E:g<n) (X:PX n w (.agg (xC x A1 c1 A2 c2).toArray) x) {G:List Nat} (D:g∈G) (V:jM G w) (W:oJ x G w (.slice z H c') p):
  Calls prog 29 #[.pointer g] w fun e w'=>e=.returned Zo/\ ∃U,wh w g (Hc s a b c d x A1 c1 A2 c2 4 M (xj x p) (me (pJ x p x.eB)) U (.slice z H c')) w'/\oJ x G w' (.slice z H c') p/\OI w w' U (ow x p):=by
 obtain⟨f,k,i,I,m⟩:=Ze (wh.mk (nG w (some g)) Y) X W Z V;clear X W Y Z V;obtain⟨J,A⟩:=nR (xj x p);obtain⟨L,B⟩:=nR (me (pJ x p x.eB));obtain⟨S,C⟩:=nR (ow x p);rw[A,B,C];obtain⟨Q1,Q2,Q3⟩:=Zc A B C;clear A B C;go_enter func29,ntmps29;go_upto_region 1 with fail
 have l:=zH (f.below (bF.drew));have y:=l;obtain⟨t,o⟩:=Zb (k.below (bF.drew)) (i.below (f.rC m) (bF.drew));refine rG (fun wS=>fc wS g 73 (Hc s a b c d x A1 c1 A2 c2 4 M 0 0 nS (.slice z H c'))) [14] (f.bl) fun hS=>?_;refine kL [0,1,2,3,4,5,6,7,8,9] ?_;refine tO 10 fun K v=>?_;go_simp;refine(Cz I _ _ p _ (o.look I (l.rC m)) t.reads).mono ?_;rintro e P ⟨rfl,j⟩;rw[Q1.out];obtain⟨h,u,r⟩:=Zc (l.below j) (t.below j) (o.below (l.rC m) j);have hS:=h.bl;have N:=hS.c 13;have O:=hS.frozen 13;refine v _ _ (hS) ?_;refine kL [11,12,13] ?_;refine tL 14 fun K v=>?_;go_simp;refine v _ _ ?_;refine tD ?_;obtain⟨f,k,i⟩:=Zc (h.put 13 J) (u.put E 13 J) (r.put (h.rC m) D 13 J);clear l t o hS N O;go_upto_region 2 with fail
 revert f k i;generalize P.setCell (pA g 13) J=w4;intro f k i;have l:=zH (f.below (bF.drew));have y:=l;obtain⟨t,o⟩:=Zb (k.below (bF.drew)) (i.below (f.rC m) (bF.drew));refine rG (fun wS=>fc wS g 73 (Hc s a b c d x A1 c1 A2 c2 4 M J 0 nS (.slice z H c'))) [14] (f.bl) fun hS=>?_;refine kL [0,1,2,3,4,5,6,7,8,9] ?_;refine tO 10 fun K v=>?_;go_simp;refine(Bg I _ _ p _ (o.look I (l.rC m)) t.reads).mono ?_;rintro e P ⟨rfl,j⟩;rw[Q2.out];obtain⟨h,u,r⟩:=Zc (l.below j) (t.below j) (o.below (l.rC m) j);have hS:=h.bl;have N:=hS.c 14;have O:=hS.frozen 14;refine v _ _ (hS) ?_;refine kL [11,12,13] ?_;refine tL 14 fun K v=>?_;go_simp;refine v _ _ ?_;refine tD ?_;obtain⟨f,k,i⟩:=Zc (h.put 14 L) (u.put E 14 L) (r.put (h.rC m) D 14 L);clear l t o hS N O;go_upto_region 3 with fail
 revert f k i;generalize P.setCell (pA g 14) L=w5;intro f k i;have l:=zH (f.below (bF.drew));have y:=l;obtain⟨t,o⟩:=Zb (k.below (bF.drew)) (i.below (f.rC m) (bF.drew));refine rG (fun wS=>fc wS g 73 (Hc s a b c d x A1 c1 A2 c2 4 M J L nS (.slice z H c'))) [14] (f.bl) fun hS=>?_;refine kL [0,1,2,3,4,5,6,7,8,9] ?_;refine tO 10 fun K v=>?_;go_simp;refine(CB I _ _ p _ (o.look I (l.rC m)) t.reads).mono ?_;rintro e P ⟨lv,rfl,F,j⟩
 (rw[Q3.out] at F;obtain⟨Q,T,rfl,-⟩:=F.slice)
 obtain⟨h,u,r⟩:=Zc (l.below j) (t.below j) (o.below (l.rC m) j);have hS:=h.bl;have N:=hS.c 15;have O:=hS.frozen 15;refine v _ _ (hS) ?_;refine kL [11,12,13] ?_;refine tL 14 fun K v=>?_;go_simp;refine v _ _ ?_;refine tD ?_;obtain⟨f,k,i⟩:=Zc (h.put 15 (.slice Q S T)) (u.put E 15 (.slice Q S T)) (r.put (h.rC m) D 15 (.slice Q S T));clear l t o hS N O;have R:=zH (show w.heap.size<=_ from y.gr.size);go_wp2_with fail;go_ret;exact⟨rfl,_,f,i,OI.mono (F.vo h.bl dE (q:=(pA g 15)) rfl _) R⟩
def aaA (X:fS×Int) (w:World) (o a c:Int) (b d:Value):Prop:=
 (X.2=2->o=1)/\((o≠4/\a=0/\c=0/\b=nS/\d=nS)\/
  (o=4/\X.2=0/\ ∃p,tj X.1.eB w d p/\PO X.1 p/\gx w .i64 b (ow X.1 p)/\a=xj X.1 p/\c=me (pJ X.1 p X.1.eB)))
abbrev uR (o bd co ho:Int) (dv pv:Value):List Value:=[o,bd,co,ho,dv,pv]
abbrev rU (g:Nat):List Value:=[.func (.func 26) #[.pointer g] #[],.func (.func 27) #[.pointer g] #[],.func (.func 28) #[.pointer g] #[],.func (.func 29) #[.pointer g] #[]]
inductive Ta (x:fS) (s:ByteArray) (a b c d:Int) (G:List Nat) (n g:Nat) (w0:World):Nat->World->Prop
 |s0:Ta x s a b c d G n g w0 0 w0
 |s1 {w A1 c1 A2 c2} (h:wh w0 g (Hc s a b c d x A1 c1 A2 c2 0 0 0 0 nS nS) w) (hP:PX n w (.agg (xC x A1 c1 A2 c2).toArray) x):Ta x s a b c d G n g w0 1 w
 |s2 {w A1 c1 A2 c2 bd} (h:wh w0 g (Hc s a b c d x A1 c1 A2 c2 3 bd 0 0 nS nS) w) (hP:PX n w (.agg (xC x A1 c1 A2 c2).toArray) x):Ta x s a b c d G n g w0 2 w
 |s3 {w A1 c1 A2 c2 bd a' n' c' p} (h:wh w0 g (Hc s a b c d x A1 c1 A2 c2 4 bd 0 0 nS (.slice a' n' c')) w) (hP:PX n w (.agg (xC x A1 c1 A2 c2).toArray) x) (hF:oJ x G w (.slice a' n' c') p) (hM:PO x p):Ta x s a b c d G n g w0 3 w
 |s4 {w A1 c1 A2 c2 bd dv a' n' c' p} (h:wh w0 g (Hc s a b c d x A1 c1 A2 c2 4 bd (xj x p) (me (pJ x p x.eB)) dv (.slice a' n' c')) w) (hF:oJ x G w (.slice a' n' c') p) (hM:PO x p) (hD:OI w0 w dv (ow x p)):Ta x s a b c d G n g w0 4 w
def wJ:(prog.info? 32).map (·.size)=some 6:=kR
theorem Fi (sa:ByteArray) (m:Int) (lv:Value) (a b c d:Int) (w:World) (hread: ∀W,Below w.heap.size w W->Calls prog 25 #[lv] W fun e W'=>e=.returned (.agg #[a,b,c,d])/\Below W.heap.size W W')
  (ha:kP a) (hb:kP b) (hc:kP c) (hd:kP d) (hsz:sa.size<=1000000) (hl: ∀l∈uK sa.data.toList,l.length<=1000) (hm:w.cell? ⟨0,0,none⟩=some m) (hx:(kU sa.data.toList).2=0->ga (kU sa.data.toList).1):
  Calls prog 7 #[.string sa,lv] w fun e w'=> ∃o bd co ho dv pv,e=.returned (.agg (uR o bd co ho dv pv).toArray)/\Below w.heap.size w w'/\aaA (kU sa.data.toList) w' o co ho dv pv:=by
 have HPA:=zH fun(g:Nat) (W:World) (h1:Below w.heap.size w W) (h2:fc W g 73 (Xp sa a b c d zI zI zI zI nS nS 0 0 0 0 nS nS))=>I0 g sa m a b c d W h2 hsz hl (a7 h1 lE hm);have HX:=zH hx;have HR:=zH hread;have HI:=zH (And.intro (And.intro ha hb) (And.intro hc hd));clear hx hread ha hb hc hd hsz hl hm;generalize kU sa.data.toList=X at HPA HX|-
 obtain⟨x,z⟩:=X;dsimp only at HPA HX;have hb1:=bL (bS w.heap.size w) (cB 32 (uR 0 0 0 0 nS nS));have bT:=fc.new w 32 (uR 0 0 0 0 nS nS);go_enter func7,ntmps7;go_wp2_with fail;refine(HR.out _ hb1).mono ?_;rintro e w2 ⟨rfl,hb2⟩;have hb3:=hb1.trans (hb2.mono hb1.size);replace bT:=bT.below hb2 bT.lt;clear hb1 hb2;go_wp2_with fail;obtain⟨w3,hw3,⟨bg,bf,-⟩,hb4,hs3⟩:=sk w2 [(73,Xp sa a b c d zI zI zI zI nS nS 0 0 0 0 nS nS),(74,rU w2.heap.size)];simp only[Hk] at hw3;rw[hw3];have HB3:=zH (hb3.trans (hb4.mono hb3.size));have lT:=bT.lt;replace bT:=bT.below hb4 bT.lt;obtain⟨g,hg⟩:=nE w2.heap.size;rw[<-hg] at bg bf|-hs3 lT
 have hgw:=hb3.size;rw[<-hg] at hgw;have hwn:w.heap.size≠g:=oG;have HGB:Hid (jM [g,w.heap.size] w3):=zH fun b hm=>by
  rcases fC.1 hm with rfl|hm
  ·exact⟨_,_,bg⟩
  ·cases nw.1 hm;exact⟨_,_,bT⟩
 have HGN:Hid (∀b∈[g,w.heap.size],b<w3.heap.size):=jA fun b hm=>by
  rcases fC.1 hm with rfl|hm
  ·exact bg.lt
  ·cases nw.1 hm;exact bT.lt
 have HBG:=zH bg;have hgn:=bg.lt;have HS0:=zH (wh.mk (nG w3 (some g)) bg);clear hb3 hb4 hw3 hg hs3 bg;go_loopw [23] (fun iv wr=> ∃i:Nat,iv=.int .i64 i/\Hid (0<i->z=0)/\Hid (Ta x sa a b c d [g,w.heap.size] w3.heap.size g w3 i wr)) (fun iv _=>4-(intOf iv).toNat)
 case atStart=>exact⟨0,rfl,zH fun h=>absurd h oG,zH .s0⟩
 case round=>
  obtain⟨i,rfl,HZ,HST⟩:=hrel;have hst:=HST.out;clear HST;cases hst with
  |s0=>
   have HS:=HS0;have fL:=bf.grown HS.out.gr sI;have hff:=fL.iY;simp only[im,Nat.reduceAdd] at hff;have lff:=fL.lt;go_wp2_with fail;refine(HPA.out g w3 HB3.out HBG.out).mono ?_;rintro e w4 ⟨rfl,h1,h2⟩;by_cases h0:z=0
   ·obtain⟨A1,c1,A2,c2,hS,hP⟩:=h1 h0;have HN:=zH (Ta.s1 (G:=[g,w.heap.size]) hS hP);subst h0;clear h1 h2 hS hP hff HS;go_wp2_with fail;go_roundw
    case rel=>exact⟨1,by go_num,zH fun _=>trivial,HN⟩
    case measure=>simp[intOf]
   ·obtain⟨o,ho,ho2,hS⟩:=h2 h0;have HS:=zH hS;have HO:=zH ho;have hz:(z==0)=false:=by simp[h0]
    clear h1 h2 hS ho hff fL;have bg9:=HS.out.bl;have t9:=bT.grown HS.out.gr (by simpa using hwn);have lg9:=bg9.lt;have hcc:=bg9.iY;simp only[im,Nat.reduceAdd] at hcc;go_wp2_with (refine fH _ rfl 32 (.tmp 4) (.tmp 34) rfl w.heap.size 32 _ (uR o 0 0 0 nS nS) t9 rfl rfl wJ rfl rfl ?_;intro w9 b9 hg9 hz9);refine bodyPost_ret (v:=.agg (uR o 0 0 0 nS nS).toArray) (ia rfl _ _ w.heap.size 32 _ _ rfl b9 underlying32 rfl wJ) rfl ?_;have hbw:Below w.heap.size w w9:=(HB3.out.grown HS.out.gr HB3.out.size (fun k e=>by cases e;omega)).grown hg9 (eZ HB3.out.size HS.out.gr.size) (fun k e=>by cases e;exact lE);exact⟨o,0,0,0,nS,nS,rfl,hbw,fun h=>HO.out h,.inl ⟨oG,rfl,rfl,rfl,rfl⟩⟩
  | @s1 wr A1 c1 A2 c2 h hP=>
   obtain rfl:z=0:=HZ.out oG;have HS:=zH h;have HP:=zH hP;have fL:=bf.grown HS.out.gr sI;have hff:=fL.iY;simp only[im,Nat.reduceAdd] at hff;have lff:=fL.lt;clear h hP HZ;go_wp2_with fail;refine(Hz (HX.out trivial) g sa a b c d A1 c1 A2 c2 _ HS.out.bl hgn HP.out HI.out.1.1 HI.out.2.2).mono ?_;rintro e w4 ⟨rfl,bd,hS,hP⟩;have HN:=zH (Ta.s2 (G:=[g,w.heap.size]) (HS.out.trans hS) hP);clear hS hP hff HS HP fL;go_wp2_with fail;go_roundw
   case rel=>exact⟨2,by go_num,zH fun _=>trivial,HN⟩
   case measure=>simp[intOf]
  | @s2 wr A1 c1 A2 c2 bd h hP=>
   obtain rfl:z=0:=HZ.out oG;have HS:=zH h;have HP:=zH hP;have fL:=bf.grown HS.out.gr sI;have hff:=fL.iY;simp only[im,Nat.reduceAdd] at hff;have lff:=fL.lt;clear h hP HZ;go_wp2_with fail;refine(KA (HX.out trivial) g sa a b c d A1 c1 A2 c2 bd _ HS.out.bl hgn HS.out.gr.size HP.out (G:=[g,w.heap.size]) (.head _) HGN.out (HS.out.rC HGB.out) HI.out.1.2 HI.out.2.1).mono ?_;rintro e w4 ⟨q,rfl,hP,h1,h2⟩;by_cases hq:q=0
   ·subst hq;obtain⟨a',n',c',p,hS,hF,hM⟩:=h2 rfl;have HN:=zH (Ta.s3 (HS.out.trans hS) hP hF hM);clear h1 h2 hS hP hF hM hff HS HP fL;go_wp2_with fail;go_roundw
    case rel=>exact⟨3,by go_num,zH fun _=>trivial,HN⟩
    case measure=>simp[intOf]
   ·have HS:=zH (HS.out.trans (h1 hq));have hz:(q==0)=false:=by simp[hq]
    clear h1 h2 hP hff HP fL;have bg9:=HS.out.bl;have t9:=bT.grown HS.out.gr (by simpa using hwn);have lg9:=bg9.lt;have hcc:=bg9.iY;simp only[im,Nat.reduceAdd] at hcc;go_wp2_with (refine fH _ rfl 32 (.tmp 4) (.tmp 34) rfl w.heap.size 32 _ (uR 3 bd 0 0 nS nS) t9 rfl rfl wJ rfl rfl ?_;intro w9 b9 hg9 hz9);refine bodyPost_ret (v:=.agg (uR 3 bd 0 0 nS nS).toArray) (ia rfl _ _ w.heap.size 32 _ _ rfl b9 underlying32 rfl wJ) rfl ?_;have hbw:Below w.heap.size w w9:=(HB3.out.grown HS.out.gr HB3.out.size (fun k e=>by cases e;omega)).grown hg9 (eZ HB3.out.size HS.out.gr.size) (fun k e=>by cases e;exact lE);exact⟨3,bd,0,0,nS,nS,rfl,hbw,fun h=>absurd h sI,.inl ⟨oG,rfl,rfl,rfl,rfl⟩⟩
  | @s3 wr A1 c1 A2 c2 bd a' n' c' p h hP hF hM=>
   obtain rfl:z=0:=HZ.out oG;have HS:=zH h;have HP:=zH hP;have HF:=zH hF;have HM:=zH hM;have fL:=bf.grown HS.out.gr sI;have hff:=fL.iY;simp only[im,Nat.reduceAdd] at hff;have lff:=fL.lt;clear h hP HZ hF hM;go_wp2_with fail;refine(I7 (HX.out trivial) g sa a b c d A1 c1 A2 c2 bd a' n' c' p _ HS.out.bl hgn HP.out (G:=[g,w.heap.size]) (.head _) (HS.out.rC HGB.out) HF.out).mono ?_;rintro e w4 ⟨rfl,dv,hS,hF,hD⟩;have HN:=zH (Ta.s4 (n:=w3.heap.size) (HS.out.trans hS) hF HM.out (hD.mono HS.out.gr.size));clear hS hF hD hff HS HP HF HM fL;go_wp2_with fail;go_roundw
   case rel=>exact⟨4,by go_num,zH fun _=>trivial,HN⟩
   case measure=>simp[intOf]
  | @s4 wr A1 c1 A2 c2 bd dv a' n' c' p h hF hM hD=>
   obtain rfl:z=0:=HZ.out oG;have HS:=zH h;have HF:=zH hF;have HM:=zH hM;have HD:=zH hD;obtain⟨Ad,cd,rfl,-⟩:=hD.slice;obtain⟨K1,hK1⟩:=nR (xj x p);obtain⟨K2,hK2⟩:=nR (me (pJ x p x.eB.length));obtain⟨K3,hK3⟩:=nR ((ow x p).length);rw[hK1,hK2,hK3] at HS;have Q1:=zH hK1;have Q2:=zH hK2;have Q3:=zH hK3;clear h HZ hF hM hD hK1 hK2 hK3;have bg9:=HS.out.bl;have t9:=bT.grown HS.out.gr (by simpa using hwn);have lg9:=bg9.lt;have hcc:=bg9.iY;simp only[im,Nat.reduceAdd] at hcc;go_wp2_with (refine fH _ rfl 32 (.tmp 4) (.tmp 34) rfl w.heap.size 32 _ (uR 4 bd K1 K2 (.slice Ad K3 cd) (.slice a' n' c')) t9 rfl rfl wJ rfl rfl ?_;intro w9 b9 hg9 hz9);refine bodyPost_ret (v:=.agg (uR 4 bd K1 K2 (.slice Ad K3 cd) (.slice a' n' c')).toArray) (ia rfl _ _ w.heap.size 32 _ _ rfl b9 underlying32 rfl wJ) rfl ?_;have hbw:Below w.heap.size w w9:=(HB3.out.grown HS.out.gr HB3.out.size (fun k e=>by cases e;omega)).grown hg9 (eZ HB3.out.size HS.out.gr.size) (fun k e=>by cases e;exact lE);exact⟨4,bd,K1,K2,_,_,rfl,hbw,fun h=>absurd h sI,.inr ⟨rfl,rfl,p,⟨(HF.out.rd.grown (HS.out.rC HGB.out) sI hg9).reads (fun b hm=>by
    rcases fC.1 hm with rfl|hm
    ·exact⟨_,_,bg9.grown hg9 (by simpa using jN hwn)⟩
    ·cases nw.1 hm;exact⟨_,_,b9⟩),(HF.out.look (HX.out trivial) (HS.out.rC HGB.out)).len,(HF.out.look (HX.out trivial) (HS.out.rC HGB.out)).dy⟩,HM.out,by
    rw[<-Q3.out];exact OI.reads (oT HD.out t9 dE hg9),Q1.out.symm,Q2.out.symm⟩⟩
def Hq:List (List UInt8):=[[111,117,116,99,111,109,101],[109,97,108,102,111,114,109,101,100]]
def I8 (c d i:Int) (A1 A2:Option Addr) (f c1 h c2:Nat) (w:World):
  Calls prog 58 #[.agg (uR 1 c d i (.slice A1 f c1) (.slice A2 h c2)).toArray] w fun e w'=>e=.returned (kI (kx Hq))/\Below w w w':=by
 have l:=fc.new w 32 (uR 1 c d i (.slice A1 f c1) (.slice A2 h c2));have c0:=l.c 0;go_enter func58,ntmps58;go_wp2_with fail;refine(QR Hq _ _ (fc.fW (w.alloc (cB 32 (uR 1 c d i (.slice A1 f c1) (.slice A2 h c2)))) 9 (Hq.map kI) (g:=w.heap.size+1) sI).strs dE dE).mono ?_;rintro e j ⟨rfl,a⟩;have b:Below w w j:=(bL (bL (bS w w) (cB 32 (uR 1 c d i (.slice A1 f c1) (.slice A2 h c2)))) (cB 9 (Hq.map kI))).trans (a.mono sO);clear a;generalize k:kI (kx Hq)=B;go_wp2_with fail;go_ret;exact⟨by first|rfl|(rw[k];rfl),b⟩
def Oj:(kU []).2=2:=by decide+kernel
def Ow (m:Int) (w:World) (f:w.cell? (pB 0)=some m):
  Calls prog 35 #[.string ⟨#[]⟩,()] w fun e w'=>e=.returned (kI (kx Hq))/\Below w w w':=by
 have i0:kP 0:=⟨by decide,by decide⟩;have n:(kU (⟨#[]⟩:ByteArray).data.toList).2=2:=Oj;have g:=zH (Fi ⟨#[]⟩ m () 0 0 0 0 w (fun W _=>LI W) i0 i0 i0 i0 dE dE f (fun h=>by rw[n] at h;cases h));have r:=zH n;clear n f;go_enter func35,ntmps35;go_wp2_with fail;refine g.mono ?_;rintro e j ⟨o,c,d,i,s,t,rfl,a,p,q⟩;obtain rfl:o=1:=p r;obtain⟨-,rfl,rfl,rfl,rfl⟩:=q.resolve_right fun h=>absurd h.1 dE;clear p q;go_wp2_with fail;refine(I8 c 0 0 none none 0 0 0 0 j).mono ?_;rintro e u ⟨rfl,b⟩;have l:=a.trans (b.mono a.size);clear a b;generalize k:kI (kx Hq)=B;go_wp2_with fail;go_ret;exact⟨by first|rfl|(rw[k];rfl),l⟩
def Qa:kI (kx Hq)=.string ⟨#[111,117,116,99,111,109,101,32,109,97,108,102,111,114,109,101,100,10]⟩:=by rfl
def Ew (m:Int) (w:World) (f:w.cell? (pB 0)=some m):
  Calls prog 10 #[] w fun e w'=>e=.returned true/\Below w w w':=by
 have g:=zH (Ow m w f);rw[Qa] at g;clear f;go_enter func10,ntmps10;go_wp2_with fail;refine g.mono ?_;rintro e j ⟨rfl,a⟩;go_wp2_with fail;go_ret;exact⟨rfl,a⟩
open Go Go.RowKit ue jm uf ko Et kN Ra
def KB {y:fS} (h:Xx y): ∀l∈uK (na y),l.length<=1000:=by rw[(tB (C2 h.wf h.may)).1];intro l a;have:=h.lines l a;omega
def QB {l:List Int} (h: ∀z∈l,tq z):kP (Bf l):=by
 cases l with
 |nil=>exact⟨by decide,by decide⟩
 |cons a l=>
  have:=h a (.head _);unfold tq at this;exact this
theorem GQ (v0:Value) (x0:fS) (v1:Value) (l1:List Int) (m:Int) (w:World) (hx0:iz w v0 x0) (hw0:x0.wf) (h1:gx w .i64 v1 l1) (hm:w.cell? ⟨0,0,none⟩=some m) (hl1:kP (Bf l1)):
  Calls prog 3 #[v0,v1] w fun e w'=>e=.returned true/\Below w.heap.size w w':=by
 have HM:=zH hm;have HX0:=zH hx0;have HW0:=zH hw0;have H1:=zH h1;have HL1:=zH hl1;obtain⟨A,c,A1,c1,rfl⟩:=hx0.shape;obtain⟨Al,cl,rfl,-⟩:=h1.open_;clear hm hx0 hw0 h1 hl1;have bA:=fc.new w 25 (xC x0 A c A1 c1);have ha1:=bL (bS w.heap.size w) (cB 25 (xC x0 A c A1 c1));obtain⟨k0,k1,k2,k3,k4,k5⟩:=bA.jI;go_enter func3,ntmps3;go_wp2_with fail;refine(NV _ x0 _ (HX0.out.below ha1 lE) HW0.out).mono ?_;rintro e w2 ⟨v2,rfl,ho2,hb2⟩;have HF0:=zH (NQ x0);generalize nC x0=y at ho2 HF0;have HO:Hid (ga y):=zH ⟨HF0.out.may,HF0.out.wf⟩;obtain⟨E,g,E1,g1,rfl⟩:=ho2.reads.shape;have ha2:=kB ha1 hb2;have hal:=bL (bS w2.heap.size w2) (cB 25 (xC y E g E1 g1));have HY:=zH (ho2.reads.below hal lE);have ha3:=kB ha2 hal;have by3:=fc.new w2 25 (xC y E g E1 g1);clear k0 k1 k2 k3 k4 k5 bA ho2 hb2 ha1 ha2 hal;obtain⟨k0,k1,k2,k3,k4,k5⟩:=by3.jI;go_wp2_with fail;refine(Jm _ y _ HY.out HF0.out.wf HF0.out.may (by have:=HF0.out.Ik;omega) (by have:=HF0.out.text;omega)).mono ?_;rintro e w4 ⟨rfl,hb4⟩;obtain⟨sa,hsa,-,hsd⟩:=sR (na y);rw[hsa];have hb5:=kB ha3 hb4;clear hsa k0 k1 k2 k3 k4 k5;go_wp2_with fail;refine(Gn l1 _ _ (H1.out.below hb5 lE)).mono ?_;rintro e w5 ⟨⟨z1,z2,z3,nv,p1,p2,p3,p4,p5,p6,rfl,hnv⟩,hb6⟩;have hb7:=kB hb5 hb6;have hb8:=kB hb4 hb6;replace by3:=by3.below hb8 by3.lt;replace HY:=zH (HY.out.below hb8 lE);have hpx:kU sa.data.toList=(y,0):=by rw[hsd];exact I3 HF0.out.wf HF0.out.may
 have HPL:=zH (Fi sa m nv (Bf l1) (kO z1 0 1000) (kO z2 0 1000) (kO z3 0 1000) w5 (fun W hW=>LH _ _ _ _ nv W (hnv.below hW lE)) HL1.out (by unfold kO kP;omega) (by unfold kO kP;omega) (by unfold kO kP;omega) (by rw[k9 hsd];have:=HF0.out.text;omega) (by rw[hsd];exact KB HF0.out) (a7 hb7 lE HM.out) (fun _=>by rw[hpx];exact HO.out));rw[hpx] at HPL;have HNV:=zH hnv;clear hnv hb4 hb6 hb8 hsd hpx hb5 ha3;obtain⟨An,cn,rfl,-⟩: ∃An cn,nv=.slice An 4 cn/\True:=by obtain⟨An,cn,e,-⟩:=HNV.out.open_;exact⟨An,cn,e,trivial⟩
 clear HNV;go_wp2_with fail;refine HPL.out.mono ?_;rintro e w6 ⟨o,bd,co,ho,dv,pv,rfl,hb9,-,hrep⟩;have hb10:=kB hb7 hb9;replace by3:=by3.below hb9 by3.lt;have HY6:=zH (HY.out.below hb9 lE);clear HPL HY hb9 hb7
 rcases hrep with ⟨n4,rfl,rfl,rfl,rfl⟩|⟨rfl,-,p,hlk,hmay,hdv,rfl,rfl⟩
 ·have hn:(o !=4)=true:=by simpa using n4
  have bR:=fc.new w6 32 (uR o bd 0 0 nS nS);have hal:=bL (bS w6.heap.size w6) (cB 32 (uR o bd 0 0 nS nS));have hb11:=kB hb10 hal;go_wp2_with fail;refine(Ew m _ (a7 hb11 lE HM.out)).mono ?_;rintro e w7 ⟨rfl,hb12⟩;have hb13:=kB hb11 hb12;clear hb12;go_wp2_with fail;go_ret;exact⟨rfl,hb13⟩
 ·obtain⟨Ad,cd,rfl,gA,gB,hpc⟩:=jP.open_ hlk.rd;obtain⟨Ak,ck,rfl,g3,g4,hdc⟩:=hdv.open_;obtain⟨K1,hK1⟩:=nR (xj y p);obtain⟨K2,hK2⟩:=nR (me (pJ y p y.eB.length));obtain⟨K3,hK3⟩:=nR (ow y p);rw[hK1,hK2,hK3];rw[hK3] at hdc;have HK1:=zH hK1;have HK2:=zH hK2;have HK3:=zH hK3;have HPC:=zH hpc;have HDC:=zH hdc;have HLK:=zH hlk;have HMAY:=zH hmay;have hl3:(K3.length:Int)=y.days:=by rw[<-hK3];simp only[ow,fm];exact hmay.len
  have hlp:(p.length:Int)=y.days:=hmay.len;clear hlk hmay hdv hpc hdc hK1 hK2 hK3;have bR:=fc.new w6 32 (uR 4 bd K1 K2 (.slice Ak K3.length ck) (.slice Ad p.length cd));have hal:=bL (bS w6.heap.size w6) (cB 32 (uR 4 bd K1 K2 (.slice Ak K3.length ck) (.slice Ad p.length cd)));have hb11:=kB hb10 hal;have hln:((K3.length:Int) !=y.days)=false:=by simp[hl3]
  obtain⟨j0,j1,j2,j3,j4,j5⟩:=by3.jI;have hby:=by3.lt;go_wp2_with fail;have bRW:=bR;have byW:=by3.alloc (cB 32 (uR 4 bd K1 K2 (.slice Ak K3.length ck) (.slice Ad p.length cd)));revert bRW byW hal hb11;generalize w6.alloc (cB 32 [.int .i64 4,bd,K1,K2,.slice Ak K3.length ck,.slice Ad p.length cd])=W;intro hal hbW bR' by';clear bR by3 hln j0 j1 j2 j3 j4 j5 hb10;obtain⟨gy,hgy⟩:=nE w2.heap.size;obtain⟨gr,hgr⟩:=nE w6.heap.size;rw[<-hgr] at bR'|-
  rw[<-hgy] at by'|-
  have HBW:=zH hbW;have HAL:=zH hal;clear hgy hgr hbW hby;go_loopw [7,8] (fun sv iv wr=> ∃d:Nat,d<=p.length/\iv=.int .i64 d/\sv=.int .i64 (Cj K2 (K3.take d))/\Below W.heap.size W wr) (fun _ iv _=>p.length-(intOf iv).toNat)
  case atStart=>exact⟨0,eC _,rfl,rfl,bS _ _⟩
  case round=>
   obtain⟨d,hd,rfl,rfl,hbr⟩:=hrel;obtain⟨s,hs⟩:=nR (Cj K2 (K3.take d));rw[hs];have HS:=zH hs;have hb6r:=HAL.out.trans (hbr.mono HAL.out.size);have br:=bR'.below hbr bR'.lt;have bq:=by'.below hbr by'.lt;have lr:=br.lt;have lq:=bq.lt;obtain⟨r0,r1,r2,r3,r4,r5⟩:=br.jI;obtain⟨j0,j1,j2,j3,j4,j5⟩:=bq.jI;clear hs;by_cases hlt:d<p.length
   ·have hdi:decide ((d:Int)<y.days)=true:=decide_eq_true oG;have hdd:(d:Int)<y.days:=oG;obtain⟨dy,hdy⟩:=ec hlt;obtain⟨b,o,rfl,hbb,tv,htv,y0⟩:=HPC.out d dy hdy;obtain⟨At,ct,rfl,g5,g6,htc⟩:=iK.open_ htv;replace y0:=a7 hb6r lE y0;have HTC:=zH htc;have HDY:=zH (HLK.out.dy dy (a8 hdy));have HPD:Hid (K3[d]? =some (me (dy.map (uA y)))):=zH (by rw[<-HK3.out];unfold ow;rw[fh,hdy];rfl);have hbb2:=bP hbb hb6r.size;obtain⟨wo,hwo⟩:=nE (wr:World);subst hwo;clear htv htc hdy;go_wp2_with fail;go_loopw [9,10] (fun pv iv wr=> ∃k:Nat,k<=dy.length/\iv=.int .i64 k/\pv=.int .i64 (me ((dy.map (uA y)).take k))/\Below wo.heap.size wo wr) (fun _ iv _=>dy.length-(intOf iv).toNat)
    case atStart=>exact⟨0,eC _,rfl,rfl,bS _ _⟩
    case round=>
     obtain⟨k,hk,rfl,rfl,hbk⟩:=hrel;obtain⟨q,hq⟩:=nR (me ((dy.map (uA y)).take k));rw[hq];have HQ:=zH hq;clear hq;have b6k:=hb6r.trans (hbk.mono hb6r.size);have br2:=br.below hbk lr;have bq2:=bq.below hbk lq;have lr2:=br2.lt;have lq2:=bq2.lt;have y0:=a7 hbk lE y0;clear r0 r1 r2 r3 r4 r5 j0 j1 j2 j3 j4 j5;obtain⟨r0,r1,r2,r3,r4,r5⟩:=br2.jI;obtain⟨j0,j1,j2,j3,j4,j5⟩:=bq2.jI;by_cases hlk:k<dy.length
     ·obtain⟨t,ht⟩:=ec hlk;obtain⟨b2,o2,rfl,hbb3,tv2,htv2,y1⟩:=HTC.out k t ht;obtain⟨As,cs,rfl,-⟩:=fQ.open_ htv2;replace y1:=a7 b6k lE y1;have hbb4:=bP hbb3 b6k.size;have hbb5:=bP hbb2 hbk.size;have HT2:=zH htv2;obtain⟨htok,htl⟩:=HDY.out.get ht;have HTO:=zH htok;have HTK:Hid (me ((dy.map (uA y)).take (k+1))=wrap64 (me ((dy.map (uA y)).take k)+uA y t)):=zH (wQ (by rw[fh,ht];rfl));rw[HQ.out] at HTK;obtain⟨Z,hZ⟩:=nR (uA y t);rw[hZ] at HTK;obtain⟨q2,hq2⟩:=nR (wrap64 (q+Z));rw[hq2] at HTK;have e1:IntKind.i64.wrap (q+Z)=q2:=by rw[<-hq2,jB];unfold wrap64;omega
      have HZ:=zH hZ;have hc6:=HO.out.head;clear ht htv2 htok hq2 hZ;go_wp2_with fail;refine rB [] fun hS=>?_;refine tk 0 hS ?_;refine tk 1 hS ?_;refine tk 2 hS ?_;refine tk 3 hS ?_;refine tk 4 hS ?_;refine tk 5 hS ?_;refine tk 6 hS ?_;refine tk 7 hS ?_;refine tk 8 hS ?_;refine tk 9 hS ?_;refine tk 10 hS ?_;refine tk 11 hS ?_;refine tO 12 fun K hK=>?_;go_simp;refine(LD _ t _ (fQ.below HT2.out (b6k.trans (hS.mono b6k.size)) lE) oG).mono ?_;rintro e w7 ⟨lv,rfl,hO7,hb7⟩;obtain⟨L,hL⟩:=nR (t.map Prod.fst);have hlL:L.length<=1000000:=by rw[<-hL,fm];omega
      have HCL:Hid (∀z∈L,0<=z/\z<=1000000000):=zH (by rw[<-hL];exact HTO.out.eB oG);have HZL:Hid (Mc y.gn L=Z):=zH (by rw[<-hL];exact HZ.out);rw[hL] at hO7;obtain⟨Av,cv,rfl,-⟩:=hO7.slice;have HO7:=zH hO7;clear hL;have hS:=hS.trans (hb7.mono hS.size);clear hO7;refine hK _ _ (hS) ?_;clear hK K;refine tO 13 fun K hK=>?_;go_simp;refine(R7 _ _ y _ _ (HY6.out.below (b6k.trans (hS.mono b6k.size)) lE) HO7.out.reads HO.out.V4 hlL HCL.out).mono ?_;rintro e w8 ⟨rfl,hb8⟩;rw[HZL.out];have hS:=hS.trans (hb8.mono hS.size);refine hK _ _ (hS) ?_;clear hK K;refine tk 14 hS ?_;refine tk 15 hS ?_;refine tD ?_;clear e1;go_wp2_with fail;go_roundw
      case rel=>exact⟨k+1,hlk,by go_num,by rw[HTK.out],hbk.trans (hS.mono hbk.size)⟩
      case measure=>exact mI
     ·obtain rfl:k=dy.length:=oG;rw[fj sI] at HQ;have hkd:K3[d]? =some q:=by rw[HPD.out,HQ.out]
      obtain⟨b3,o3,rfl,hbb3,y2⟩:=HDC.out d q hkd;replace y2:=a7 b6k lE y2;have HA:Hid (Cj K2 (K3.take (d+1))=wrap64 (s+q)):=zH (by rw[Ev K2 hkd,HS.out]);have hdk:=fP hkd;have hdk2:(d:Int)<K3.length:=oG;clear hkd;go_wp2_with fail;go_roundw
      case rel=>exact⟨d+1,hlt,by go_num,by rw[HA.out],hbr.trans (hbk.mono hbr.size)⟩
      case measure=>exact mI
   ·obtain rfl:d=p.length:=oG;have hsk:s=K1:=by rw[<-HS.out,fj oG,<-HK1.out];unfold xj;rw[HK2.out,HK3.out]
    subst hsk;have hdi:decide (y.days<y.days)=false:=sI;obtain⟨wo,hwo⟩:=nE (wr:World);subst hwo;rw[hlp];go_wp2_with fail;go_loopw [11,12] (fun hv iv wr=> ∃i:Nat,i<=y.eB.length/\iv=.int .i64 i/\hv=.int .i64 (me (pJ y p i))/\Below wo.heap.size wo wr) (fun _ iv _=>y.eB.length-(intOf iv).toNat)
    case atStart=>exact⟨0,eC _,rfl,rfl,bS _ _⟩
    case round=>
     obtain⟨i,hi,rfl,rfl,hbk⟩:=hrel;obtain⟨q,hq⟩:=nR (me (pJ y p i));rw[hq];have HQ:=zH hq;have b6k:=hb6r.trans (hbk.mono hb6r.size);have br2:=br.below hbk lr;have bq2:=bq.below hbk lq;have lr2:=br2.lt;have lq2:=bq2.lt;clear r0 r1 r2 r3 r4 r5 j0 j1 j2 j3 j4 j5 hq;obtain⟨r0,r1,r2,r3,r4,r5⟩:=br2.jI;obtain⟨j0,j1,j2,j3,j4,j5⟩:=bq2.jI;have hcl:=HF0.out.Ik;by_cases hli:i<y.eB.length
     ·obtain⟨cu,hcu⟩:=ec hli;obtain⟨cv,dv2,e,hcs,-⟩:=id HY6.out;obtain⟨A',c',e2,-,-,hc⟩:=hcs.open_;have e3:cv=.slice E y.eB.length g:=by cases e;rfl
      rw[e3] at e2;cases e2;clear hcs e e3;obtain⟨b,o,rfl,hbl,pv',hp,y0,y1,y2,y3,y4,y5,y6,y7⟩:=hc i cu hcu;obtain⟨Ap,cp,rfl,-⟩:=lu.open_ hp;replace y0:=a7 b6k lE y0;replace y1:=a7 b6k lE y1;replace y2:=a7 b6k lE y2;replace y3:=a7 b6k lE y3;replace y4:=a7 b6k lE y4;replace y5:=a7 b6k lE y5;replace y6:=a7 b6k lE y6;replace y7:=a7 b6k lE y7;have hbl2:=bP hbl b6k.size;have HCU:=zH hcu;clear hp hc;by_cases hk2:cu.kind=2
      ·have HCT:=zH (zX HO.out (a8 hcu) hk2);have HNE:=zH (HMAY.out.Sq i cu hcu hk2);have HHL:=zH (EU (p:=p) hcu hk2);rw[HQ.out] at HHL;have hh:=HO.out.head;have HRB:Hid (∀(W:World) (v:Value),RL 2 iH W v (pY (sU (i:Int) p))->Calls prog 14 #[v,y.days] W fun e w'=> ∃lv,e=.returned lv/\OI W.heap.size w' lv (Qd y p i)/\Below W.heap.size W w'):=zH fun W v h=>by
        have k:=Ja v (pY (sU (i:Int) p)) y.days.toNat W h (UQ HLK.out.dy _) oG (Og HLK.out.dy _)
        rwa [show((y.days.toNat:Nat):Int)=y.days by omega] at k
       have hbq:(Qd y p i).length<=1000:=by rw[lB];omega
       generalize hBR:Qd y p i=BR at HRB HNE hbq;have HHE:Hid (Wk y p i cu=wrap64 (cu.hold*me (sL cu.jU cu.size cu.start BR))):=zH (by rw[<-hBR];rfl);rw[HHE.out] at HHL;obtain⟨N,hN⟩:=nR (sL cu.jU cu.size cu.start BR);rw[hN] at HHL;have HN:=zH hN;have hkn:(cu.kind==2)=true:=by simp[hk2]
       clear hk2 hcu hBR hN;go_wp2_with fail;have bC:=fc.new wr 47 (NG cu.kind cu.iL Ap cu.jC.length cp cu.jU cu.size cu.start cu.lR cu.hold);have hb1:=bL (bS wr.heap.size wr) (cB 47 (NG cu.kind cu.iL Ap cu.jC.length cp cu.jU cu.size cu.start cu.lR cu.hold));have b7:=b6k.trans (hb1.mono b6k.size);have br3:=br2.below hb1 lr2;have bq3:=bq2.below hb1 lq2;have hbk2:=hbk.trans (hb1.mono hbk.size);obtain⟨gc,hgc⟩:=nE wr.heap.size;rw[<-hgc] at bC|-
       clear hb1 y0 y1 y2 y3 y4 y5 y6 y7 r0 r1 r2 r3 r4 r5 j0 j1 j2 j3 j4 j5;revert b7 hbk2 bC br3 bq3;generalize wr.alloc (cB 47 [cu.kind,cu.iL,.slice Ap cu.jC.length cp,cu.jU,cu.size,cu.start,cu.lR,cu.hold])=W1;intro b7 br3 bq3 hbk2 bC;clear b6k hbk br2 bq2 lr2 lq2 hgc hbl hbl2;have lr2:=br3.lt;have lq2:=bq3.lt;have lc2:=bC.lt;have b7:=b7.trans (bF.drew.mono b7.size);have hbk2:=hbk2.trans (bF.drew.mono hbk2.size);refine rG (fun wS=>fc wS gr 32 (uR 4 bd s K2 (.slice Ak K3.length ck) (.slice Ad p.length cd))/\fc wS gy 25 (xC y (some ⟨b,o,none⟩) g E1 g1)/\fc wS gc 47 (NG cu.kind cu.iL Ap cu.jC.length cp cu.jU cu.size cu.start cu.lR cu.hold)) [] (⟨br3,bq3,bC⟩) fun hS=> ?_;refine tk 0 hS ?_;refine tk 1 hS ?_;refine tk 2 hS ?_;refine tk 3 hS ?_;refine tk 5 hS ?_;refine tk 6 hS ?_;refine tO 4 fun K hK=>?_;go_simp;refine(Jo _ p (i:Int) _ (jP.below HLK.out.rd b7 (ij _)) HLK.out.Ik).mono ?_;rintro e w7 ⟨lv,rfl,hV,hb7⟩;obtain⟨Av,cv,rfl,-⟩:=hV.slice;have HV:=zH hV.reads;have hS:_/\_/\_:=⟨br3.drew.below hb7 lr2,bq3.drew.below hb7 lq2,bC.drew.below hb7 lc2⟩;have b8:=b7.trans (hb7.mono b7.size);have hbk3:=hbk2.trans (hb7.mono hbk2.size);clear hV hb7 b7 hbk2 br3 bq3 bC lr2 lq2 lc2;refine hK _ _ (hS) ?_;clear hK K;refine tO 7 fun K hK=>?_;go_simp;refine(HRB.out _ _ HV.out).mono ?_;rintro e w8 ⟨lq,rfl,hq7,hb8⟩;obtain⟨Aq,cq,rfl,-⟩:=hq7.slice;have HQ7:=zH hq7.reads;have hS:_/\_/\_:=⟨hS.1.below hb8 hS.1.lt,hS.2.1.below hb8 hS.2.1.lt,hS.2.2.below hb8 hS.2.2.lt⟩;have b9:=b8.trans (hb8.mono b8.size);have hbk4:=hbk3.trans (hb8.mono hbk3.size);clear hq7 hb8 b8 hbk3;refine hK _ _ (hS) ?_;clear hK K;refine tO 8 fun K hK=>?_;go_simp;refine(Jg cu.kind cu.iL Ap cu.jC.length cp cu.jU cu.size cu.start cu.lR cu.hold _ BR _ HQ7.out hbq HCT.out.1 HCT.out.2.1 HCT.out.2.2 HNE.out).mono ?_;rintro e w9 ⟨u,rfl,hu,hb10'⟩;rw[HN.out] at hu;obtain⟨Au,cu',rfl,-⟩:=hu.open_;have HU:=zH hu;have hS:_/\_/\_:=⟨hS.1.below hb10' hS.1.lt,hS.2.1.below hb10' hS.2.1.lt,hS.2.2.below hb10' hS.2.2.lt⟩;have hbk5:=hbk4.trans (hb10'.mono hbk4.size);clear hu hb10' hbk4 b9;refine hK _ _ (hS) ?_;clear hK K;refine tk 9 hS ?_;refine tk 10 hS ?_;refine tk 11 hS ?_;refine tk 12 hS ?_;refine tk 13 hS ?_;refine tD ?_;obtain⟨-,-,bC9⟩:=hS;have hd:=bC9.iY;simp only[im,Nat.reduceAdd] at hd;obtain⟨z0,z1',z2',z3',z4,z5,z6,z7,-⟩:=hd;go_wp2_with fail;refine(On cu.kind cu.iL (.slice Ap cu.jC.length cp) cu.jU cu.size cu.start cu.lR cu.hold _ N w9 ⟨_,_,_,rfl⟩ HU.out).mono ?_;rintro e w10 ⟨rfl,hb11'⟩;obtain⟨q2,hq2⟩:=nR (wrap64 (cu.hold*me N));rw[hq2] at HHL|-
       have hbk6:=hbk5.trans (hb11'.mono hbk5.size);clear hb11' hbk5 z0 z1' z2' z3' z4 z5 z6 z7 hq2;go_wp2_with fail;go_roundw
       case rel=>exact⟨i+1,hli,by go_num,by rw[HHL.out],hbk6⟩
       case measure=>exact mI
      ·have HHL:=zH (Iv (p:=p) hcu hk2);rw[HQ.out] at HHL;have hkn:(cu.kind==2)=false:=by simp[hk2]
       clear hk2 hcu;go_wp2_with fail;go_roundw
       case rel=>exact⟨i+1,hli,by go_num,by rw[HHL.out],hbk.trans ((bF.alloc lE _).mono hbk.size)⟩
       case measure=>exact mI
     ·obtain rfl:i=y.eB.length:=oG;have hqk:q=K2:=by rw[<-HQ.out,HK2.out]
      subst hqk;go_wp2_with fail;refine(Ew m _ (a7 (kB HBW.out (hbr.trans (hbk.mono hbr.size))) lE HM.out)).mono ?_;rintro e w7 ⟨rfl,hb12⟩;have hb13:=kB (kB HBW.out (hbr.trans (hbk.mono hbr.size))) hb12;go_wp2_with fail;go_ret;exact⟨rfl,hb13⟩
end
end Go.Proofs.YtgimnjldndkalaaGreatDoor
