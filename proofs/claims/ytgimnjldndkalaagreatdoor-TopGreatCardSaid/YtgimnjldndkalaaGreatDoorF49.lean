/- Of the proof of TopGreat: A plan of TopGreat's instance may be;. -/
import Derived.Test.YtgimnjldndkalaaGreatDoorF46
import Derived.Test.YtgimnjldndkalaaGreatDoorF27
set_option linter.all false
set_option maxHeartbeats 4000000
set_option maxRecDepth 100000
namespace Go.Proofs.YtgimnjldndkalaaGreatDoor
variable {lb:Nat} {dv:Value} {W W':World}
section
open Go.RowKit jm ko Et kN
variable {a b z:Int} {c:kc} {x:fS}
def iF.goT (e:iF x c a b) (i:1<=z/\z<=2147483648):GoT x [(0,z)]:=by
 have h:=e.hd;have k:=e.ab;refine⟨⟨0,z,rfl,⟨ui _,by rw[e.len];decide⟩,i⟩,?_,?_⟩
 ·show wrap64 (0+z)<=x.cap;unfold wrap64;omega
 ·have:=e.Mc z;unfold uA at this;rw[this];omega
def iF.goD (e:iF x c a b) (i:0<=z/\z<=2147483648):GoD x (ic z):=by
 have h:=e.hd;unfold ic;split
 ·exact⟨by simp,by simp;omega,fun t g=>by cases nw.1 g;exact e.goT oG⟩
 ·exact⟨by simp,by simp;omega,fun t g=>by cases g⟩
def iF.afT (e:iF x c a b): ∀{t:Tr},jK x.eB t->t≠[]->uA x t=a+b:=by
 have g:sm x.gn 0 1=a:=by rw[e.di];rfl
 have i:sm x.gn 1 0=b:=by rw[e.di];rfl
 have k:sm x.gn 1 1=0:=by rw[e.di];rfl
 have key: ∀t:Tr,jK x.eB t->sc x.gn 1 (t.map Prod.fst)=b:=by
  intro t
  induction t with
  |nil=>intro _;exact i
  |cons s t ih=>
   intro h;have j:=h s (.head _);have d:s.1=0:=by have:=j.1;rw[e.len] at this;omega
   show sm x.gn 1 (s.1+1)+sc x.gn (s.1+1) (t.map Prod.fst)=b;rw[d,xT,k,ih (fun y m=>h y (.tail _ m)),xT]
 intro t h f;cases t with
 |nil=>exact absurd rfl f
 |cons s t=>
  have j:=h s (.head _);have d:s.1=0:=by have:=j.1;rw[e.len] at this;omega
  show sm x.gn 0 (s.1+1)+sc x.gn (s.1+1) (t.map Prod.fst)=a+b;rw[d,xT,g,key t (fun y m=>h y (.tail _ m))]
def iF.day (e:iF x c a b) {d:Dy} (l:jS x.eB 4000 d) (f: ∀t∈d,t≠[]):me (d.map (uA x))=d.length*(a+b):=by
 have k:=e.ab;have n:=l.len;have j: ∀z∈d.map (uA x),0<=z/\z<=2147483648:=fun z i=>by obtain⟨t,g,rfl⟩:=cy.1 i;rw[e.afT (l.st t g) (f t g)];omega
 have o: ∀d:Dy,(∀t∈d,uA x t=a+b)->(d.map (uA x)).sum=d.length*(a+b):=by
  intro d
  induction d with
  |nil=>intro _;simp
  |cons t d ih=>
   intro h;rw[gN,yu,ih (fun y m=>h y (.tail _ m)),h t (.head _),ff,Pz,Int.add_mul];omega
 rw[adF,K3 2147483648 _ 0 j (ui _) (by rw[fm];omega),o d (fun t g=>e.afT (l.st t g) (f t g))];omega
def iF.goL (e:iF x c a b) (i:0<=z/\z<=2147483648):adR x (acq z):=by
 have k:=e.ab;refine⟨by rw[ac4];exact e.goD i,fun d l f n=>?_⟩;rw[ac4];have j:=ac7 i;rw[e.day (d:=ic z) (by rw[e.len];exact j.1.mono dE) j.2,e.day l f];unfold ic;unfold acq at n;by_cases g:0<z
 ·rw[if_pos g] at n|-
  have o:=jQ.2 (n sI);exact aef sO oG
 ·rw[if_neg g];have:0<=(d.length:Int)*(a+b):=eS oG oG;simpa using this
def iF.pok (e:iF x c a b) {q:List Int} (f:qn x.days c.size c.start q):POk x (ep q):=by
 refine⟨by rw[o5];exact f.len,fun d l=>?_,fun k cu g=>?_⟩
 ·obtain⟨z,i,rfl⟩:=cy.1 l;exact e.goD (f.bd z i)
 ·rw[e.cu] at g;cases k with
  |zero=>
   cases g;refine⟨by rw[e.ct.2.2.1];decide,?_⟩;rw[aeh f.bd f.len,e.ct.2.1];exact f.ok
  |succ k=>simp at g
end
section
open Go.Proofs.Tryz
open Go.RowKit jm ko Et kN J8
abbrev hzC (x:fS) (A1:Option Addr) (c1:Nat) (A2:Option Addr) (c2:Nat) (v:Value) (bud:Int) (p f g:Value):List Value:=(yX x A1 c1 A2 c2 [v,bud,p,f,g])
theorem adt (F rb n:Nat) (hF:F=170∨F=213) (I:Nat→World→Prop) (w:World) (hn:n≤64)
  (hc:w.cell? ⟨rb,0,none⟩=some (.int .i64 n)) (h0:I 0 w)
  (hs: ∀k W,k <n→I k W→Calls Tryz.prog F #[.pointer (some ⟨rb,0,none⟩),.int .i64 (k:Int)] W fun e W'=>e= .returned (.tuple #[])∧I (k+1) W'):
  Calls Tryz.prog 169 #[.pointer (some ⟨rb,0,none⟩),.func (.func F) #[.pointer (some ⟨rb,0,none⟩)] #[]] w fun e w'=>e= .returned (.tuple #[])∧I n w':=by
 have HI:=jA h0;have HS:=jA hs;clear h0 hs;go_enter Tryz.func169,Tryz.ntmps169;go_wp2_with fail;clear hc;go_loopw [10] (fun iv wr=> ∃i:Nat,i≤n∧iv= .int .i64 i∧Hid (I i wr)) (fun iv _=>n - (intOf iv).toNat)
 case atStart=>exact⟨0,eC _,rfl,HI⟩
 case round=>
  clear HI;obtain⟨i,hi,rfl,HI⟩:=hrel;by_cases hlt:i <n
  ·rcases hF with rfl|rfl
   all_goals
    go_wp2_with fail;refine(HS.out i wr hlt HI.out).mono ?_;rintro e w3 ⟨rfl,h3⟩;have HI3:=jA h3;clear h3;go_wp2_with fail;go_roundw
    case rel=>exact⟨i+1,hlt,by go_num,HI3⟩
    case measure=>exact mI
  ·obtain rfl:i=n:=by omega
   go_wp2_with fail
   go_end0
   exact⟨rfl,HI.out⟩
theorem afs {W:World} {g:Nat} {z0:Int} (h:fc W g 3 [z0]):gx W .i64 (.slice g 1 1) [z0]:=
 h.gx (l:=[z0]) rfl lE dE
structure afo (x:fS) (A1:Option Addr) (c1:Nat) (A2:Option Addr) (c2:Nat) (bud:Int) (w0:World) (gp k:Nat) (W:World):Prop where
 bw:fc W (gp+1) 234 (hzC x A1 c1 A2 c2 () bud () () (.slice gp 1 1))
 pr: ∃lv l,l.length=k/\fc W gp 26 [lv]/\OI (gp+2) W lv l
 bl:Below gp w0 W
section
variable {x:fS} {c:kc} {a b:Int} (hx:iF x c a b) (A1:Option Addr) (c1:Nat) (A2:Option Addr) (c2:Nat)
include hx
theorem Uj (o:Int) (M:World) (a k:Nat) (w:World) (hr:iz M (.agg (xC x A1 c1 A2 c2).toArray) x) (R:M.heap.size<=a) (hk:k<64) (h:afo x A1 c1 A2 c2 o M a k w):
  Calls prog 170 #[.pointer (pB (a+1)),(k:Int)] w fun e w'=>e=.returned (.tuple #[])/\afo x A1 c1 A2 c2 o M a (k+1) w':=by
 obtain⟨s,⟨lv,l,H,r,m⟩,F⟩:=h;obtain⟨HR,V,HO⟩:=Zc hr hx.len m;obtain⟨U,W,rfl,-⟩:=m.slice;obtain⟨N,A,B⟩:=Zc hx.ok.V4 F H;clear hr F m H;have d:=s.iY;simp only[im,Nat.reduceAdd] at d;obtain⟨X,Y,Z,d3,d4,d5,d6,d7,d8,d9,D,-⟩:=d;have y0:=r.c 0;have L:=s.lt;have J:=r.lt;go_enter func170,ntmps170;go_wp2_with fail;clear X Y Z d3 d4 d5 d6 d7 d8 d9 D y0 L J;go_loopw [11] (fun T wr=> ∃i:Nat,i<=1/\T=.int .i64 i/\(i=0->wr=w)/\Hid (i=1->afo x A1 c1 A2 c2 o M a (k+1) wr)) (fun T _=>1-(intOf T).toNat)
 case atStart=>exact⟨0,oG,rfl,fun _=>rfl,fun h=>oG⟩
 case round=>
  obtain⟨i,hi,rfl,hw,hO⟩:=hrel;obtain rfl|rfl:i=0\/i=1:=oG
  ·obtain rfl:=hw rfl;have S:(0:Int)<x.eB.length:=by rw[V.out];decide
   have d:=s.iY;simp only[im,Nat.reduceAdd] at d;obtain⟨X,Y,Z,d3,d4,d5,d6,d7,d8,d9,D,-⟩:=d;have y0:=r.c 0;have L:=s.lt;have J:=r.lt;clear hw hO;go_wp2_with fail;refine rG (fun wS=>fc wS (a+1) 234 (hzC x A1 c1 A2 c2 () o () () (.slice a 1 1))/\fc wS a 26 [.slice U l W]/\Below (a+2) wr wS) [22] (⟨s.drew,r.drew,bF.drew⟩) fun hS=>?_;refine kL [0,1,2,3,4,5,6,7,8,9,10,11,12,13,14,15,16] ?_;refine tO 17 fun K q=>?_;go_simp;have c:=bL (bS wr wr).drew (cB 3 [Zo]);have P:=fc.new wr.drew 3 [Zo];have hS:=And.intro (s.below c L) (And.intro (r.below c J) (c.mono (show a+2<=wr.heap.size by omega)));refine q _ _ (hS) ?_;refine tO 18 fun K q=>?_;go_simp;refine(US _ _ x [0] _ (HR.below (A.trans (hS.2.2.mono oG)) R) (afs P) N dE dE).mono ?_;rintro e wb ⟨rfl,Q⟩;obtain⟨z,hz⟩:=nR (Mc x.gn [0]);rw[hz];have f:=c.trans (Q.mono c.size);have hS:=And.intro (s.below f L) (And.intro (r.below f J) (f.mono (show a+2<=wr.heap.size by omega)));clear hz;refine q _ _ (hS) ?_;refine tO 19 fun K q=>?_;go_simp;have j:=f.alloc f.size (cB 3 [z]);have P:=fc.new wb 3 [z];have hS:=And.intro (s.below j L) (And.intro (r.below j J) (j.mono (show a+2<=wr.heap.size by omega)));have u:=zH ((HO).below j lE);have t:a+2<=(wb.alloc (cB 3 [z])).heap.size:=by have:=j.size;omega
   have G:l.length<=1000000000:=by have:=B.out;omega
   refine q _ _ (hS) ?_;refine tO 20 fun K q=>?_;refine qj _ (.tmp 25) (.tmp 33) rfl (a+2) _ l u rfl z rfl P G t ?_;rintro g cap w5 I-v -;have y: ∀b,b<a+2->some b≠(Value.slice U l W).ownBlock:=fun b hb e=>by have:=(iB u b e.symm).1;omega
   have C:=hS.1.grown v (y _ oG);have n:=hS.2.1.grown v (y _ oG);have E:=hS.2.2.grown v t (fun k e=>(iB u k e).1);have hS:=And.intro C (And.intro n E);have O:=zH I;clear I y;refine q _ _ (hS) ?_;refine kL [21] ?_;refine tL 22 fun K q=>?_;have e5:=n.c 0;have e6:=n.frozen 0;go_simp;refine q _ _ ?_;refine tD ?_;go_wp2_with fail;go_roundw
   case rel=>exact⟨1,oG,by go_num,fun h=>oG,fun _=>⟨C.kj (p:=a) (by show a+1≠a;omega) _,⟨_,l++[z],by rw[fa,B.out];rfl,n.gH 0 _,by have h:=jo O (p:=a) (by show a<a+2;omega) (.slice g (l.length+1) cap);exact h⟩,(A.trans (E.mono oG)).setCell (p:=a) lE _⟩⟩
   case measure=>simp[intOf]
  ·have S: ¬((1:Int)<x.eB.length):=by rw[V.out];decide
   go_wp2_with fail
   go_end0
   exact⟨rfl,hO (by first|rfl|trivial)⟩
end
end
section
open Go.Proofs.Tryz
open Go.RowKit jm ko Et kN J8
variable {k:Value} {q:List Int} {w w':World}
theorem afj:(prog.info? 52).map (fun i=>(i.zero,i.size,i.bytes))=some (some (.slice none 0 0),1,24):=kR
def ChV (lb:Nat) (w:World) (k:Value) (q:List Int):Prop:= ∃m,w.ownsRow lb 52 1 k 1 [m]/\OV lb w m (gg q)
theorem ChV.below (h:ChV lb w k q) (a:Below w w w'):ChV lb w' k q:=by obtain⟨m,p,t⟩:=h;exact⟨m,jq p a lE,OV.below t a lE⟩
theorem ChV.keep {base:Nat} {e:TypeId} (h:ChV lb w k q) (a:kQ e base w w') (p:e≠52) (t:e≠86):ChV lb w' k q:=by obtain⟨m,B,C⟩:=h;exact⟨m,a.own B (jN p),a.own C (jN t)⟩
theorem ChV.mono {lb':Nat} (h:ChV lb w k q) (c:lb'<=lb):ChV lb' w k q:=by obtain⟨m,B,C⟩:=h;exact⟨m,kZ B c,kZ C c⟩
theorem ChV.low {g i:Nat} {u:Value} (h:ChV lb w k q) (a:g<lb):ChV lb (w.setCell (pA g i) u) k q:=by obtain⟨m,B,C⟩:=h;exact⟨m,jo B (by exact a) u,jo C (by exact a) u⟩
theorem ChV.open_ (h:ChV lb w k q): ∃g cap m,k=.slice (pB g) 1 cap/\lb<=g/\g<w.heap.size/\w.cell? (pB g)=some m/\OV lb w m (gg q):=by
 obtain⟨m,p,t⟩:=h
 rcases id p.2 with ⟨-,f⟩|⟨g,cap,d,rfl,c,a,r⟩
 ·cases f
 ·obtain⟨A,cc,e,-,-,-,T⟩:=RS.jh p;cases e;obtain⟨b,o,e,-,T⟩:=T Nat.one_pos;cases e;exact⟨g,cap,m,rfl,c,(aah.1 a).1,T 0 m rfl,t⟩
section
variable {x:fS} {c:kc} {a b:Int} (hx:iF x c a b) (g o:Nat) (c1:Nat) (A2:Option Addr) (c2:Nat) (dm:Int) (A0:Option Addr) (n0 c0:Nat)
include hx
theorem adX (gp:Nat) (m:Value) (l:List Int) (w:World) (V:qk w g o dm A0 n0 c0 c) (T:w.cell? gp=some m) (Y:gx w .i64 m l):
  Calls prog 171 #[.agg (xC x (pA g o) c1 A2 c2).toArray,.slice gp 1 1] w fun e w'=>
   ∃k q,e=.returned (.tuple #[k,Zo])/\qn x.days c.size c.start q/\ChV w w' k q/\Below w w w':=by
 have R:=hx.hd;have z:=hx.start;have b:=hx.ct;obtain⟨n,X⟩: ∃n:Nat,x.days=n:=⟨x.days.toNat,oG⟩;obtain⟨Al,cl,rfl,-⟩:=Y.open_;have HP:=zH Y;have U:0<x.eB.length:=by rw[hx.len];decide
 obtain⟨HL,HM⟩:=Zb hx.len V;have HA:=zH fun pv W h=>abR dm A0 n0 c0 c.size c.start c.hold n x.cap pv l W b.2.2.2.1 z oG oG h;obtain⟨W,hW,⟨J,-⟩,a,-⟩:=sk w [(25,xC x (pA g o) c1 A2 c2)];simp only[Hk] at hW;have d:=V.lt;have HQ:Hid (∀q:List Int,q.length=n->pX 1 c.size c.start q=0->qn x.days c.size c.start q):=zH fun q p t=>⟨by rw[p,X],t⟩;obtain⟨k0,B,C,k3,k4,k5,-⟩:=J.iY;have u:=J.lt;have HN:=zH X;clear V Y X R b z;go_enter func171,ntmps171;go_wp2_with fail;clear hW k0 B C k3 k4 k5 u;go_loopw [6,15] (fun I y wr=> ∃i:Nat,i<=1/\y=.int .i64 i/\Hid (i=0->wr=W/\I=.slice none 0 0)/\Hid (i=1-> ∃q,qn x.days c.size c.start q/\ChV w wr I q/\Below w w wr)) (fun _ y _=>1-(intOf y).toNat)
 case atStart=>exact⟨0,oG,rfl,fun _=>⟨rfl,rfl⟩,fun h=>oG⟩
 case round=>
  obtain⟨i,hi,rfl,Z,S⟩:=hrel;obtain rfl|rfl:i=0\/i=1:=oG
  ·obtain⟨rfl,rfl⟩:=Z oG;have K:(0:Int)<x.eB.length:=by rw[HL.out];decide
   obtain⟨k0,B,C,k3,k4,k5,-⟩:=J.iY;have u:=J.lt;have F:=zH (HM.below a lE);obtain⟨d,y0,y1,y2,y3,y4,y5,y6,y7⟩:=F.out;have p0:=a7 a lE T;have L:=aag wr _ p0;have ae:(0:Int)<1:=dE;clear Z S;go_wp2_with fail;rw[HN.out];have f:=bL (bS wr wr) (cB 47 (pL dm A0 n0 c0 c.size c.start c.hold));refine(HA _ _ (HP.below (a.trans (f.mono a.size)) lE)).mono ?_;rintro e w3 ⟨m,q,rfl,s,v,r,P⟩;have H:=zH r;have Q:=f.trans (P.mono f.size);have D:=a.trans (Q.mono a.size);have O:=zH (HQ q s v);obtain⟨Av,cv,rfl,-⟩:=r.slice;clear k0 B C k3 k4 k5 u d y0 y1 y2 y3 y4 y5 y6 y7 p0 L r s v;go_upto_region 11 with fail
   have A:w.heap.size<=w3.heap.size:=D.size;go_wp2_with ((refine iD w3 rfl (.tmp 40) (.tmp 42) 120 rfl w 52 _ 1 24 underlying120 afj rfl dE dE _ 0 [] (gL _ _ _ _) rfl [.slice Av (gg q).length cv] _ rfl rfl rfl dE A ?_;rintro g5 N w5 G - - E -));have j:=E.own (kZ H (show w.heap.size<=_ from a.trans (f.mono a.size)|>.size)) dE;go_roundw
   case rel=>exact⟨1,oG,by go_num,fun h=>oG,fun _=>⟨q,O,⟨_,G,j⟩,D.trans (E.below A)⟩⟩
   case measure=>simp[intOf]
  ·have K: ¬((1:Int)<x.eB.length):=by rw[HL.out];decide
   obtain⟨q,p,t,h3⟩:=S (by first|rfl|trivial);have HC:=zH t;obtain⟨g3,aa,af,rfl,-⟩:=t.open_;have M:=zH p;clear p t;go_wp2_with fail
   go_ret2
   exact⟨_,rfl,q,M,HC,h3⟩
theorem aeI (A1:Option Addr) (lb:Nat) (k:Value) (q:List Int) (d:Nat) (z:Int) (w:World) (hq:qn x.days c.size c.start q) (hv:ChV lb w k q) (hz:q[d]? =some z):
  Calls prog 243 #[.agg (xC x A1 c1 A2 c2).toArray,k,(d:Int)] w fun e w'=> ∃sv,e=.returned sv/\OS w w' sv (acq z)/\Below w w w':=by
 obtain⟨gv,cap,m,rfl,-,aj,cv,r⟩:=hv.open_;obtain⟨Av,cc,rfl,-⟩:=r.slice;have X:(gg q).length<=64:=by have p:=px q 0;have t:=hq.len;have h3:=hx.hd;unfold gg;omega
 obtain⟨n,HV,HL⟩:=Zc (aff hz) r.reads hx.len;obtain⟨V,hV⟩:=nR (gg q);rw[hV] at n HV X cv;obtain⟨W,hW,⟨J,-⟩,a,-⟩:=sk w [(25,xC x A1 c1 A2 c2)];simp only[Hk] at hW;obtain⟨k0,B,C,k3,k4,k5,-⟩:=J.iY;have u:=J.lt;have U:(x.eB.length:Int)=1:=by rw[HL.out];rfl
 have ah:min (x.eB.length:Int) 1=1:=oG;obtain⟨F,O⟩: ∃F:Nat->Tr,F=fun j=>((V.take j).filter (fun v=>v.1==(d:Int))).map (fun v=>((0:Int),v.2)):=⟨_,rfl⟩;have P:F 0=[]:=by rw[O];rfl
 have Q:F V.length=acq z:=by rw[O,<-n.out];show(List.filter _ (V.take V.length)).map _=_;rw[gh]
 have R: ∀j s,V[j]? =some s->F (j+1)=F j++(if s.1=(d:Int) then [((0:Int),s.2)] else []):=fun j s hs=>by
  rw[O];show(List.filter _ (V.take (j+1))).map _=(List.filter _ (V.take j)).map _++_;rw[iC hs,nu,gJ];congr 1;by_cases h:s.1=(d:Int)
  ·rw[if_pos h,List.filter_cons_of_pos (by simp[h])];rfl
  ·rw[if_neg h,List.filter_cons_of_neg (by simp[h])];rfl
 have ae: ∀j,(F j).length<=1000000000:=fun j=>by
  rw[O];show((List.filter _ (V.take j)).map _).length<=_;rw[fm];have p:=tQ (fun v:Int×Int=>v.1==(d:Int)) (V.take j);have t:=Es j V;have h3:(V.take j).length<=V.length:=by rw[fB];omega
  omega
 have HF:=zH (And.intro P (And.intro Q R));clear r hV hz hq O P Q R n;go_enter func243,ntmps243;go_wp2_with fail;clear hW k0 B C k3 k4 k5 u U ah;go_loopw [7,17] (fun I y wr=> ∃i:Nat,i<=1/\y=.int .i64 i/\Hid (i=0->wr=W/\I=.slice none 0 0)/\Hid (i=1->OS w wr I (acq z)/\Below w w wr)) (fun _ y _=>1-(intOf y).toNat)
 case atStart=>exact⟨0,oG,rfl,fun _=>⟨rfl,rfl⟩,fun h=>oG⟩
 case round=>
  obtain⟨i,hi,rfl,Z,S⟩:=hrel;obtain rfl|rfl:i=0\/i=1:=oG
  ·obtain⟨rfl,rfl⟩:=Z oG;have K:(0:Int)<1:=dE;have p0:=a7 a lE cv;have L:=aag wr _ p0;clear Z S;go_wp2_with fail;clear p0 L;go_loopw [7,25] (fun I y wi=> ∃j:Nat,j<=V/\y=.int .i64 j/\Hid (OS w wi I (F j))/\Below w w wi) (fun _ y _=>V.length-(intOf y).toNat)
   case atStart=>exact⟨0,eC _,rfl,zH (by rw[HF.out.1];exact OS.jL _ _),a⟩
   case round=>
    clear a;obtain⟨j,hj,rfl,l,a⟩:=hrel;by_cases g:j<V
    ·obtain⟨s,hs⟩:=ec g;obtain⟨A,c',e,-,-,T⟩:=fQ.open_ (fQ.below HV a lE);cases e;obtain⟨b,o,rfl,ai,y0,y1⟩:=T j s hs;have n:=zH (HF.2.2 j s hs);have aa:=ae j;obtain⟨An,cn,rfl,-⟩:=l.slice;by_cases he:s.1=(d:Int)
     ·have ag:(s.1==(d:Int))=true:=by simp[he]
      rw[if_pos he] at n;have f:=bL (bS wr wr) (cB 86 [(d:Int),s.2]);have Y:=OS.below l f lE;have H:w.heap.size<=(wr.alloc (cB 86 [(d:Int),s.2])).heap.size:=by have:=a.size;have:=f.size;omega
      go_wp2_with ((refine P7 (wr.alloc (cB 86 [(d:Int),s.2])) rfl (.tmp 33) (.tmp 38) rfl w _ (F j) Y rfl 0 s.2 rfl sI aa H ?_;rintro g5 N w5 G - - E -));have af:=a.trans ((f.mono a.size).trans (E.below H));rw[<-n.out] at G;go_roundw
      case rel=>exact⟨j+1,g,by go_num,G,af⟩
      case measure=>exact mI
     ·have ag:(s.1==(d:Int))=false:=by simp[he]
      rw[if_neg he,mz] at n;go_wp2_with fail;go_roundw
      case rel=>have f:=bL (bS wr wr) (cB 86 [s.1,s.2]);exact⟨j+1,g,by go_num,zH (by rw[n.out];exact OS.below l f lE),a.trans (f.mono a.size)⟩
      case measure=>exact mI
    ·obtain rfl:j=V.length:=oG;have M:=zH (And.intro l HF.2.1);clear l;go_wp2_with fail;go_roundw
     case rel=>exact⟨1,oG,by go_num,fun h=>oG,fun _=>⟨by rw[<-M.out.2];exact M.1,a⟩⟩
     case measure=>simp[intOf]
  ·have p:=S (by first|rfl|trivial);have HC:=zH p.1;obtain⟨As,cs,rfl,-⟩:=p.1.slice;have D:=p.2;have K: ¬(1:Int)<1:=dE;clear p;go_wp2_with fail;go_ret;exact⟨_,rfl,HC,D⟩
end
end
section
open Go.RowKit jm ko Et kN J8
theorem aaD {P:Program} {ops:Array Oper} {rest:List Oper} {o:Oper} {a:Act} {Q:Exit→Act→World→Prop} (w:World) (hgd:o.guard=none) (s x:Operand) (t:TypeId)
  (ho:o.op= .call {callee:= .builtin .append,args:= #[s,x],argTypes:= #[t,t]})
  (base:Nat) (e:TypeId) (z:Value) (size bytes:Nat) (ht:P.underlying t=some (.slice e)) (hi:(P.info? e).map (fun i=>(i.zero,i.size,i.bytes))=some (some z,size,bytes))
  (hzs:z.cells.size=size) (hsz:0 <size) (hby:bytes≤100)
  (v:Value) (n:Nat) (xs:List Value) (hown:w.ownsRow base e size v n xs) (hs:a.eval s=v)
  (news:List Value) (c g0:Nat) (hx:a.eval x= .slice (some ⟨g0,0,none⟩) 1 c) (hg0:fc w g0 e news) (hl:news.length=size) (h1:news.all (fun u=>u.oneCell')=true)
  (hn:n≤1000000000) (hbase:base≤w.heap.size)
  (h: ∀g cap w',w'.ownsRow base e size (.slice (some ⟨g,0,none⟩) (n+1) cap) (n+1) (xs++news)→(v.ownBlock=some g∨w.heap.size≤g)→g <w'.heap.size→w.grownBy w' v.ownBlock→
   wpList P ops Q rest (a.put o.dst (.slice (some ⟨g,0,none⟩) (n+1) cap)) w'):wpList P ops Q (o::rest) a w:=
 wpList_plain hgd fun _ hK=>vW w s x t ho base e z size bytes ht hi hzs hsz hby v n xs hown hs news c g0 hx hg0 hl h1 hn hbase fun g cap w' k1 k2 k3 k4=>hK _ _ (h g cap w' k1 k2 k3 k4)
def PD (D:Nat→Prop) (lb:Nat) (W:World) (dv:Value) (p:Pl):Prop:=OL lb 39 1 (fun W cs d=> ∃tv,cs=[tv]∧nN D W tv d) W dv p
structure PlM (lb:Nat) (W:World) (dv fv:Value) (p:Pl) (m:Nat):Prop where
 own: ∃D:Nat→Prop,(∀k,D k→lb≤k∧k <W.heap.size∧dv.ownBlock≠some k∧fv.ownBlock≠some k)∧PD D lb W dv p
 er:OE lb W fv (List.replicate m 0)
section
variable {m:Nat} {fv:Value} {p:Pl}
theorem PlM.jL:PlM lb W (.slice none 0 0) (.slice none 0 0) [] 0:=⟨⟨fun _=>False,fun _ h=>h.elim,OL.jL _ _ _ _ _⟩,OE.jL _ _⟩
theorem PlM.at (h:PlM lb W dv fv p m) (hk: ∀k,lb≤k→k <W.heap.size→W'.heap[k]? =W.heap[k]?) (hs:W.heap.size≤W'.heap.size):PlM lb W' dv fv p m:=by obtain⟨⟨D,hD,css,h1,h2,h3,h4⟩,he⟩:=h;refine⟨⟨D,fun k hk=>⟨(hD k hk).1,bP (hD k hk).2.1 hs,(hD k hk).2.2⟩,css,h1,h2,sM h3 (fun g hg=>hk g (iB h3 g hg).1 (iB h3 g hg).2),fun i x cs hx hc=> ?_⟩,sM he (fun g hg=>hk g (iB he g hg).1 (iB he g hg).2)⟩;obtain⟨tv,e,hd⟩:=h4 i x cs hx hc;exact⟨tv,e,hd.at (fun k hq=>hk k (hD k hq).1 (hD k hq).2.1) hs⟩
theorem PlM.below (h:PlM lb W dv fv p m) (hb:Below W.heap.size W W'):PlM lb W' dv fv p m:=h.at (fun k _ hk=>hb.block k hk) hb.size
theorem PlM.slice (h:PlM lb W dv fv p m):(∃A c,dv= .slice A p.length c)∧ ∃A c,fv= .slice A m c:=by obtain⟨⟨D,-,hd⟩,he⟩:=h;obtain⟨xs,hx⟩:=OL.own hd;obtain⟨A,c,hv,-⟩:=RS.jh hx;obtain⟨A2,c2,hv2,-⟩:=RS.jh he;rw[Xt] at hv2;exact⟨⟨A,c,hv⟩,A2,c2,hv2⟩
theorem PlM.day {w:World} (h:PlM lb w dv fv p m) {D':Nat→Prop} {tv:Value} {d:Dy} (hd:nN D' W tv d) (hD': ∀k,D' k→w.heap.size≤k∧k <W.heap.size) (hlb:lb≤w.heap.size) (hb:Below w.heap.size w W):
  ∃xs:List Value,w.ownsRow lb 39 1 dv p.length xs∧ ∀(W':World) (g cap:Nat),W'.ownsRow lb 39 1 (.slice (some ⟨g,0,none⟩) (p.length+1) cap) (p.length+1) (xs++[tv])→(dv.ownBlock=some g∨W.heap.size≤g)→W.grownBy W' dv.ownBlock→
  PlM lb W' (.slice (some ⟨g,0,none⟩) (p.length+1) cap) fv (p++[d]) m:=by
 obtain⟨⟨D,hD,css,h1,h2,h3,h4⟩,he⟩:=h;refine⟨_,h3,fun W' g cap ho hgg hg=> ?_⟩;have hdl:=iB h3;have hel:=iB he;have hk0: ∀k,k <w.heap.size→dv.ownBlock≠some k→W'.heap[k]? =w.heap[k]? :=fun k h1 h2=>(hg.block k (bP h1 hb.size) (jN h2)).trans (hb.block k h1);have hgw: ∀k,k <w.heap.size→dv.ownBlock≠some k→k≠g:=fun k h1 h2 e=>by
  subst e
  rcases hgg with hgg|hgg
  ·exact h2 hgg
  ·have:=hb.size;omega
 refine⟨⟨fun k=>D k∨D' k,fun k hk=> ?_,?_⟩,?_⟩
 ·rcases hk with hk|hk
  ·obtain⟨q1,q2,q3,q4⟩:=hD k hk;exact⟨q1,by have:=hb.size;have:=hg.size;omega,fun e=>by cases e;exact hgw _ q2 q3 rfl,q4⟩
  ·obtain⟨q1,q2⟩:=hD' k hk;refine⟨by omega,by have:=hg.size;omega,fun e=> ?_,fun e=>by have:=(hel k e).2;omega⟩;cases e
   rcases hgg with hgg|hgg
   ·have h9:=(hdl _ hgg).2;have h8:w.heap.size≤g:=q1;omega
   ·have h8:g <W.heap.size:=q2;omega
 ·refine OL.push (n:=p.length) rfl h1 h2 rfl ho (fun i x cs hx hc=> ?_) ⟨tv,rfl,?_⟩
  ·obtain⟨tv,e,hd⟩:=h4 i x cs hx hc;exact⟨tv,e,(hd.at (fun k hq=>hk0 k (hD k hq).2.1 (hD k hq).2.2.1) (by have:=hb.size;have:=hg.size;omega)).mono fun k hk=> .inl hk⟩
  ·exact(hd.at (fun k hq=>hg.block k (hD' k hq).2 fun e=>by have:=(hdl k e.symm).2;have:=(hD' k hq).1;omega) hg.size).mono fun k hk=> .inr hk
 ·have hK:=kQ.ux (jq h3 hb (ij _)) hg;exact hK.own (jq he hb (ij _)) (by decide)
theorem PlM.err {w:World} (h:PlM lb w dv fv p m) (hb:Below w.heap.size w W)
  {g cap:Nat} (hg:W.grownBy W' fv.ownBlock) (hgg:fv.ownBlock=some g∨W.heap.size≤g)
  (ho:W'.ownsRow lb 48 1 (.slice (some ⟨g,0,none⟩) (m+1) cap) (m+1) ((List.replicate m 0).map (Value.int .i64)++[.int .i64 0])):
  PlM lb W' dv (.slice (some ⟨g,0,none⟩) (m+1) cap) p (m+1):=by
 obtain⟨⟨D,hD,css,h1,h2,h3,h4⟩,he⟩:=h;have hK:=kQ.ux (jq he hb (ij _)) hg;refine⟨⟨D,fun k hk=> ?_,css,h1,h2,hK.own (jq h3 hb (ij _)) (by decide),fun i x cs hx hc=> ?_⟩,?_⟩
 ·obtain⟨q1,q2,q3,q4⟩:=hD k hk;refine⟨q1,by have:=hb.size;have:=hg.size;omega,q3,fun e=> ?_⟩;cases e
  rcases hgg with hgg|hgg
  ·exact q4 hgg
  ·have h8:g <w.heap.size:=q2;have:=hb.size;omega
 ·obtain⟨tv,e,hd⟩:=h4 i x cs hx hc;exact⟨tv,e,hd.at (fun k hq=>(hg.block k (bP (hD k hq).2.1 hb.size) (jN (hD k hq).2.2.2)).trans (hb.block k (hD k hq).2.1)) (by have:=hb.size;have:=hg.size;omega)⟩
 ·unfold OE;rw[Xt,afU,gJ];exact ho
end
end
section
open Go.Proofs.Tryz
open Go.RowKit jm ko Et kN J8
theorem afP{p:Prop}(h:p:=by intro w9 M m aT;have hS:=hS.grown m hS.size (fun k e=>by cases e;exact O);refine j _ _ (hS) ?_;refine kL [24] ?_;refine tD ?_;go_wp2_with fail;go_meet;exact⟨_,o,r,_,rfl,rfl,M,O,zH ⟨fun k f=>⟨(l.1 k f).1,by have:=(l.1 k f).2.1;omega⟩,l.2.at (fun k f=>m.block k (l.1 k f).2.1 (fun e=>(l.1 k f).2.2 (by cases e;rfl))) m.size⟩,hS⟩):p:=h
theorem PlM.low {lb m g i:Nat} {W:World} {dv fv u:Value} {p:Pl} (h:PlM lb W dv fv p m) (Z:g<lb):PlM lb (W.setCell (pA g i) u) dv fv p m:=
 h.at (fun k h1 _=>heap_setCell_other W (pA g i) k u (by show k≠g;omega)) (by simp[World.setCell])
structure HzS (x:fS) (A1:Option Addr) (c1:Nat) (A2:Option Addr) (c2:Nat) (lb rb:Nat) (vv:Value) (q:List Int) (bud:Int) (pr:Value) (w0:World) (k:Nat) (W:World):Prop where
 pl: ∃dv fv,fc W rb 234 (hzC x A1 c1 A2 c2 vv bud dv fv pr)/\PlM lb W dv fv (ep (q.take k)) k
 ch:ChV lb W vv q
 bl:Below w0 w0 W
 lb:rb<lb/\lb<=W
section
variable {x:fS} {c:kc} {a b:Int} (hx:iF x c a b) (A1:Option Addr) (c1:Nat) (A2:Option Addr) (c2:Nat)
include hx
theorem aeq (lb C:Nat) (vv:Value) (q:List Int) (F:Int) (pr:Value) (w0:World) (k:Nat) (w:World) (hr:iz w0 (.agg (xC x A1 c1 A2 c2).toArray) x) (aP:w0.heap.size<=C) (hq:qn x.days c.size c.start q) (f:k<q) (ag:F<=9223372036854775807)
  (h:HzS x A1 c1 A2 c2 lb C vv q F pr w0 k w):
  Calls prog 213 #[.pointer C,(k:Int)] w fun e w'=>e=.returned (.tuple #[])/\HzS x A1 c1 A2 c2 lb C vv q F pr w0 (k+1) w':=by
 obtain⟨⟨dv,fv,bw,az⟩,ax,aK,J⟩:=h;obtain⟨z,hz⟩:=ec f;have aU:=hq.bd z (a8 hz);have aF:=zH fun W h=>aeI hx c1 A2 c2 A1 lb vv q k z W hq h hz;have aq:=zH fun sv W h1 h2=>Jx x A1 c1 A2 c2 sv (acq z) F W h1 hx.ok h2 (by unfold acq;split <;>simp) ag;obtain⟨ao,ak,U,an,HR,t⟩:=Zf (hx.goL aU) (ac4 z) az ax hr aK;obtain⟨gv,af,lv,rfl,-⟩:=ax.open_;obtain⟨⟨Ad,cd,rfl⟩,Af,cf,rfl⟩:=az.slice;have ae:(ep (q.take k)).length=k:=by rw[o5,fB];omega
 rw[ae] at U bw;have HZ:=zH hz;have bI:k<=64:=by have:=hq.len;have:=hx.hd;omega
 obtain⟨P,hP⟩:=nR (ep (q.take k));rw[hP] at U ae;obtain⟨aX,aZ⟩:=Zb hP ae;clear az ax hr aK hz aU hq hP ae ag;have d:=bw.iY;simp only[im,Nat.reduceAdd] at d;obtain⟨d0,d1,d2,d3,d4,d5,d6,d7,d8,d9,V,-⟩:=d;have lw:=bw.lt;go_enter func213,ntmps213;go_upto_region 0 with fail
 go_cut [4,5] from 6 to 27 (fun pv ev wc=> ∃gb o r D',pv=.pointer (pB gb)/\ev=.int .i64 0/\fc wc gb 39 [.slice o (ic z).length r]/\w.heap.size<=gb/\Hid ((∀k,D' k->w.heap.size<=k/\k<wc.heap.size)/\nN D' wc (.slice o (ic z).length r) (ic z))/\Below w w wc)
 case first=>
  refine rB [] fun hS=>?_;refine kL [0,1,2,3,4,5,6,7,8,9,10,11,12,14,15,16,17] ?_;refine pU ?_;refine mL 13 22 rfl rfl rfl rfl kR (fun K j=>?_) (fun K j=>?_)
  ·go_simp;refine(aF _ (an.below hS)).mono ?_;rintro e R ⟨sv,rfl,A,Y⟩;have S:=zH A.reads;obtain⟨As,cs,rfl,-⟩:=A.slice;have hS:=hS.trans (Y.mono hS.size);clear A;refine j _ _ (hS) ?_;refine pU ?_;refine mL 18 22 rfl rfl rfl rfl kR (fun K j=>?_) (fun K j=>?_)
   ·go_simp;refine(aq _ _ (HR.below (t.trans (hS.mono t.size)) lE) (S)).mono ?_;rintro e L ⟨dv,d,z0,rfl,-,D,-,-,Z,y⟩;obtain⟨rfl,rfl⟩:=Z ao;rw[ak.out] at D;obtain⟨o,r,rfl⟩:=D.slice;have l:=zH D;have aJ:=hS.size;have hS:=hS.trans (y.mono hS.size);clear D Z;refine j _ _ (hS) ?_;refine kL [19,20,21] ?_;refine tO 22 fun K j=>?_;go_simp;have v:=fc.new L 39 [()];have O:=hS.size;have a:=bL (bS L L) (cB 39 [()]);have h6:=hS.alloc hS.size (cB 39 [()]);replace l:=zH (And.intro (fun k (f:R.heap.size<=k/\nB L k)=>(show w.heap.size<=k/\k<(L.alloc (cB 39 [()])).heap.size/\k≠L.heap.size from⟨oG,by have:=f.2.lt;have:=a.size;omega,by have:=f.2.lt;omega⟩)) (l.at (fun k f=>a.block k f.2.lt) a.size));refine j _ _ (h6) ?_;have hS:=h6;refine tO 23 fun K j=>?_;refine gY _ 39 (.tmp 4) (.tmp 26) rfl L 39 [()] [.slice o (ic z).length r] v rfl rfl qw rfl rfl ?_;exact afP
   ·go_simp;have v:=fc.new R 39 [()];have O:=hS.size;have a:=bL (bS R R) (cB 39 [()]);have h6:=hS.alloc hS.size (cB 39 [()]);refine j _ _ (h6) ?_;have hS:=h6;refine tO 18 fun K j=>?_;go_simp;refine(aq _ _ (HR.below (t.trans (hS.mono t.size)) lE) (fQ.below S a lE)).mono ?_;rintro e L ⟨dv,d,z0,rfl,-,D,-,-,Z,y⟩;obtain⟨rfl,rfl⟩:=Z ao;rw[ak.out] at D;obtain⟨o,r,rfl⟩:=D.slice;have l:=zH D;have aJ:=hS.size;have hS:=hS.trans (y.mono hS.size);clear D Z;have l:=zH (And.intro (fun k (f:(R.alloc (cB 39 [()])).heap.size<=k/\nB L k)=>(show w.heap.size<=k/\k<L.heap.size/\k≠R.heap.size from by have h1:=f.1;have h2:=f.2.lt;simp at h1;omega)) l);have v:=v.below y v.lt;refine j _ _ (hS) ?_;refine kL [19,20,21] ?_;refine tO 23 fun K j=>?_;refine gY _ 39 (.tmp 4) (.tmp 26) rfl R 39 [()] [.slice o (ic z).length r] v rfl rfl qw rfl rfl ?_;exact afP
  ·go_simp;have v:=fc.new w.drew 39 [()];have h6:=hS.alloc hS.size (cB 39 [()]);refine j _ _ (h6) ?_;have hS:=h6;refine tO 13 fun K j=>?_;go_simp;refine(aF _ (an.below hS)).mono ?_;rintro e R ⟨sv,rfl,A,Y⟩;have S:=zH A.reads;obtain⟨As,cs,rfl,-⟩:=A.slice;have hS:=hS.trans (Y.mono hS.size);clear A;have v:=v.below Y v.lt;have bA:=v.lt;refine j _ _ (hS) ?_;refine tO 18 fun K j=>?_;go_simp;refine(aq _ _ (HR.below (t.trans (hS.mono t.size)) lE) (S)).mono ?_;rintro e L ⟨dv,d,z0,rfl,-,D,-,-,Z,y⟩;obtain⟨rfl,rfl⟩:=Z ao;rw[ak.out] at D;obtain⟨o,r,rfl⟩:=D.slice;have l:=zH D;have aJ:=hS.size;have hS:=hS.trans (y.mono hS.size);clear D Z;have l:=zH (And.intro (fun k (f:R.heap.size<=k/\nB L k)=>(show w.heap.size<=k/\k<L.heap.size/\k≠w.heap.size from by have h1:=f.1;have h2:=f.2.lt;have h3:w.heap.size<R.heap.size:=bA;omega)) l);have v:=v.below y v.lt;refine j _ _ (hS) ?_;refine kL [19,20,21] ?_;refine tO 23 fun K j=>?_;refine gY _ 39 (.tmp 4) (.tmp 26) rfl w 39 [()] [.slice o (ic z).length r] v rfl rfl qw rfl rfl ?_;intro w9 M m aT;have hS:=hS.grown m hS.size (fun k e=>by cases e;exact lE);refine j _ _ (hS) ?_;refine kL [24] ?_;refine tD ?_;go_wp2_with fail;go_meet;exact⟨_,o,r,_,rfl,rfl,M,lE,zH ⟨fun k f=>⟨(l.1 k f).1,by have:=(l.1 k f).2.1;omega⟩,l.2.at (fun k f=>m.block k (l.1 k f).2.1 (fun e=>(l.1 k f).2.2 (by cases e;rfl))) m.size⟩,hS⟩
 case rest=>
  obtain⟨gb,o,r,D',rfl,rfl,M,bJ,HD,s⟩:=hcut;have H:=bw.below s lw;have aQ:=t.trans (s.mono (show w0.heap.size<=w by omega));obtain⟨aY,aC⟩:=Zb (U.below s) (an.below s);clear d0 d1 d2 d3 d4 d5 d6 d7 d8 d9 V lw;have d:=H.iY;simp only[im,Nat.reduceAdd] at d;obtain⟨d0,d1,d2,d3,d4,d5,d6,d7,d8,d9,V,-⟩:=d;have e8:=H.frozen 8;have lw:=H.lt;have y0:=M.c 0;have lg:=M.lt;go_upto_region 1 with fail
  refine rG (fun wS=>fc wS C 234 (hzC x A1 c1 A2 c2 (.slice gv 1 af) F (.slice Ad k cd) (.slice Af k cf) pr)/\fc wS gb 39 [.slice o (ic z).length r]) [12] (⟨H.drew,M.drew⟩) fun hS=>?_;refine kL [0,1,2,3,4,5,6] ?_;refine tO 7 fun K j=>?_;go_simp;have a:=(bL (bS wc wc) (cB 39 [.slice o (ic z).length r])).drew;have bn:=(fc.new wc 39 [.slice o (ic z).length r]).drew;have au:=H.below a lw;have ar:=M.below a lg;have bH:=a.size;have Q:=s.size;obtain⟨xs,n,B⟩:=U.day (W:=(wc.alloc (cB 39 [.slice o (ic z).length r])).drew) (HD.2.at (fun k f=>a.block k (HD.1 k f).2) a.size) (fun k f=>⟨(HD.1 k f).1,by have:=(HD.1 k f).2;omega⟩) J.2 (s.trans (a.mono Q));rw[aZ.out] at n B;have b:lb<=(wc.alloc (cB 39 [.slice o (ic z).length r])).drew.heap.size:=oG;have E:=jq n (s.trans (a.mono Q)) lE;obtain⟨aG,aH,aE⟩:=Zc (iB E) (iB n) B;clear B n aY;have hS:=And.intro au ar;refine j _ _ (hS) ?_;refine tO 8 fun K j=>?_;refine vW _ (.tmp 33) (.tmp 35) 28 rfl lb 39 _ 1 24 underlying28 ac8 rfl dE dE _ k xs E rfl [.slice o (ic z).length r] _ _ rfl bn rfl rfl oG b ?_;intro X g w5 aO ah bO I;have aD:=zH (aE w5 X g aO ah I);have ai:some C≠(Value.slice Ad k cd).ownBlock:=fun e=>by have:=(aG C e.symm).1;omega
  have aj:some gb≠(Value.slice Ad k cd).ownBlock:=fun e=>by have:=(aH gb e.symm).2;omega
  have ay:=kQ.ux E I;have bh:=eZ b I.size;have N:=au.grown I ai;have aB:=zH ((aC.below a).keep ay dE dE);have aR:=((aQ.trans (a.mono oG)).trans ((ay.below b).mono oG));have hS:=And.intro N (ar.grown I aj);clear aC bn ar au aQ ah I ay aO ai aj aH aG aE E;refine j _ _ (hS) ?_;refine kL [9,10,11] ?_;refine tL 12 fun K j=>?_;have r8:=N.c 8;have q8:=N.frozen 8;go_simp;refine j _ _ ?_;refine tD ?_;have G:fc (w5.setCell (pA C 8) (.slice X (k+1) g)) C 234 (hzC x A1 c1 A2 c2 (.slice gv 1 af) F (.slice X (k+1) g) (.slice Af k cf) pr):=N.gH 8 (.slice X (k+1) g);obtain⟨T,al⟩:=Zb (aD.low (i:=8) (u:=.slice X (k+1) g) J.1) (aB.low (i:=8) (u:=.slice X (k+1) g) J.1);have aA:=aR.setCell (p:=pA C 8) aP (.slice X (k+1) g);have aS:lb<=(w5.setCell (pA C 8) (.slice X (k+1) g)).heap.size:=by simpa[World.setCell] using bh
  clear aD aB aR N r8 q8 hS H M s d0 d1 d2 d3 d4 d5 d6 d7 d8 d9 V e8 lw y0 lg a bH Q b;revert G T al aA aS;generalize w5.setCell (pA C 8) (.slice X (k+1) g)=w6;intro G T al aA aS;have d:=G.iY;simp only[im,Nat.reduceAdd] at d;obtain⟨d0,d1,d2,d3,d4,d5,d6,d7,d8,d9,V,-⟩:=d;have e9:=G.frozen 9;have lw:=G.lt;have a:=bL (bS w6 w6) (cB 48 [Value.int .i64 0]);have bn:=fc.new w6 48 [Value.int .i64 0];have n:=jq T.er a lE;rw[Xt] at n;have b:lb<=(w6.alloc (cB 48 [Value.int .i64 0])).heap.size:=by have:=a.size;omega
  have aN:some C≠(Value.slice Af k cf).ownBlock:=fun e=>by have:=(iB n C e.symm).1;omega
  go_wp2_with ((refine aaD (w6.alloc (cB 48 [Value.int .i64 0])) rfl (.tmp 44) (.tmp 46) 232 rfl lb 48 _ 1 8 underlying232 TF rfl dE dE _ k _ n rfl [Value.int .i64 0] _ w6 rfl bn rfl rfl oG b ?_;intro g7 aI w7 bG aL bU aa;have aw:=(G.below a lw).grown aa aN;have r9:=aw.c 9;have q9:=aw.frozen 9));have aW:=zH (T.err a aa aL bG);have aM:=kQ.ux n aa;have aV:=zH ((al.below a).keep aM dE dE);have bB:=eZ b aa.size
  go_end0
  refine⟨rfl,⟨⟨_,_,aw.gH 9 _,?_⟩,aV.low J.1,((aA.trans (a.mono oG)).trans ((aM.below b).mono oG)).setCell (p:=pA C 9) aP _,J.1,by simpa[World.setCell] using bB⟩⟩;have e:ep (q.take (k+1))=P++[ic z]:=by rw[iC HZ.out,<-aX.out];unfold ep;rw[gJ];rfl
  rw[e];have h:=aW.low (i:=9) (u:=.slice g7 (k+1) aI) J.1;exact h
end
end
section
open Go.Proofs.Tryz
open Go.RowKit jm ko Et kN J8
theorem aet {x:fS} {A1:Option Addr} {c1:Nat} {A2:Option Addr} {c2:Nat} {H dv V v:Value} {f:Int} (lb b m:Nat) (w:World) (j:fc w b 234 (hzC x A1 c1 A2 c2 H f dv V v)) (n:OE lb w V (List.replicate m 0)) (A:m<=64):
  Calls prog 214 #[.pointer b] w fun e w'=>e=.returned Zo/\w'=w:=by
 have k:=RS.jh n;rw[Xt] at k;obtain⟨q,y,rfl,l,-,-,J⟩:=k;have s:Hid (∀i:Nat,i<m-> ∃g o,q=some ⟨g,o,none⟩/\g<w.heap.size/\w.cell? (pA g (o+i))=some (.int .i64 0)):=zH fun i p=>by obtain⟨g,o,e,u,c⟩:=J oG;exact⟨g,o,e,u,c i _ (by rw[adm,rW,if_pos p])⟩
 clear J n;have d:=j.iY;simp only[im,Nat.reduceAdd] at d;obtain⟨L,M,N,O,P,Q,R,S,T,U,r,-⟩:=d;have X:=j.lt;go_enter func214,ntmps214;go_wp2_with fail;clear L M N O P Q R S T U r X j;go_loopw [4,10] (fun z h wr=> ∃i:Nat,i<=m/\h=.int .i64 i/\wr=w) (fun _ h _=>m-(intOf h).toNat)
 case atStart=>exact⟨0,eC _,rfl,rfl⟩
 case round=>
  obtain⟨i,p,rfl,rfl⟩:=hrel;by_cases a:i<m
  ·obtain⟨g,o,rfl,t,B⟩:=s i a;go_wp2_with fail;go_roundw
   case rel=>exact⟨i+1,a,by go_num,by first|rfl|trivial⟩
   case measure=>exact mI
  ·obtain rfl:i=m:=oG;go_wp2_with fail;go_ret;exact⟨rfl,rfl⟩
section
variable {x:fS} {c:kc} {a b:Int} (hx:iF x c a b) (A1:Option Addr) (c1:Nat) (A2:Option Addr) (c2:Nat)
include hx
theorem aex (lb b:Nat) (H:Value) (q:List Int) (f:Int) (v0 p0 f0 v:Value) (y w:World) (Y:iz y (.agg (xC x A1 c1 A2 c2).toArray) x) (m:y.heap.size<=b) (F:qn x.days c.size c.start q) (o:f<=9223372036854775807)
  (j:fc w b 234 (hzC x A1 c1 A2 c2 v0 f p0 f0 v)) (t:ChV lb w H q) (C:Below y y w) (g:b<lb/\lb<=w):
  Calls prog 172 #[.pointer b,H] w fun e w'=>e=.returned Zo/\HzS x A1 c1 A2 c2 lb b H q f v y q w':=by
 have A:=zH t;obtain⟨s,a,lv,rfl,-⟩:=t.open_;have Z:=zH fun W J h0=>adt 213 b q (.inr rfl) (HzS x A1 c1 A2 c2 lb b (.slice s 1 a) q f v y) W (by have:=F.len;have:=hx.hd;omega) J h0 (fun k W' hk h=>aeq hx A1 c1 A2 c2 lb b _ q f v y k W' Y m F hk o h);obtain⟨K,z⟩:=Zb F.len C;have G:q.length<=64:=by have:=F.len;have:=hx.hd;omega
 clear Y F t o C;have d:=j.iY;simp only[im,Nat.reduceAdd] at d;obtain⟨L,M,N,O,P,Q,R,S,T,U,r,-⟩:=d;have e6:=j.frozen 6;have e8:=j.frozen 8;have e9:=j.frozen 9;have X:=j.lt;go_enter func172,ntmps172;go_upto_region 2 with fail
 have B:fc _ b 234 (hzC x A1 c1 A2 c2 (.slice s 1 a) f () () v):=((j.gH 6 (.slice s 1 a)).gH 8 ()).gH 9 ();have I:=(((z.setCell (p:=pA b 6) m (.slice s 1 a)).setCell (p:=pA b 8) m ()).setCell (p:=pA b 9) m ());have l:=zH (((A.low (i:=6) (u:=.slice s 1 a) g.1).low (i:=8) (u:=.slice none 0 0) g.1).low (i:=9) (u:=.slice none 0 0) g.1);have n:lb<=(((w.setCell (pA b 6) (.slice s 1 a)).setCell (pA b 8) ()).setCell (pA b 9) ()).heap.size:=by simpa[World.setCell] using g.2
 clear L M N O P Q R S T U r e6 e8 e9 X j A z;revert B I l n;generalize (((w.setCell (pA b 6) (.slice s 1 a)).setCell (pA b 8) ()).setCell (pA b 9) ())=w6;intro B I l n;go_wp2_with fail;refine(Z w6 (by rw[K.out];exact B.c 0) ⟨⟨_,_,B,PlM.jL⟩,l,I,g.1,n⟩).mono ?_;rintro e w7 ⟨rfl,E⟩;have HP:=zH E;obtain⟨⟨dv,V,j,D⟩,-⟩:=E;have HM:=zH D.er;clear B I l n D;go_wp2_with fail;refine(aet lb b q w7 j HM G).mono ?_;rintro e w8 ⟨rfl,rfl⟩;go_wp2_with fail;go_ret;exact⟨rfl,HP⟩
end
end
section
open Go.Proofs.Tryz
open Go.RowKit jm ko Et kN J8
theorem gB:(prog.info? 30).map (·.size)=some 1:=kR
theorem aft:(prog.info? 26).map (fun i=>(i.zero,i.size,i.bytes))=some (some (.slice none 0 0),1,24):=kR
theorem acD (w:World):(Instr.makeSlice 23 (.int .i64 1) (.int .i64 1)).run prog w=.ok (.slice w 1 1) (w.alloc (cB 26 [()])):=by obtain⟨i,c,a,Q,b⟩:=info_parts aft;have h:=run_make (P:=prog) w 23 26 i _ underlying23 c a .i64 .i64 (1:Nat) (1:Nat) oG oG (by rw[b];decide) oG;rw[gu,Q,jR,Fb] at h;exact h
def sl (lb:Nat) (W:World) (dv:Value) (p:Pl):Prop:=RL 1 (fun W f d=> ∃a,f=[a]/\nN (fun k=>lb<=k/\k<W.heap.size) W a d) W dv p/\InO (fun k=>lb<=k/\k<W.heap.size) dv
section
variable {lb':Nat} {p:Pl}
theorem sl.mono (h:sl lb W dv p) (hl:lb'<=lb):sl lb' W dv p:=
 ⟨RL.imp (fun f d ⟨a,e,b⟩=>⟨a,e,b.mono fun k B=>⟨oG,B.2⟩⟩) h.1,fun g c=>⟨by have:=(h.2 g c).1;omega,(h.2 g c).2⟩⟩
theorem sl.reads (h:sl lb W dv p):jP W dv p:=RL.imp (fun f d ⟨a,e,b⟩=>⟨a,e,b.reads⟩) h.1
theorem PlM.acI {fv:Value} {m:Nat} (h:PlM lb W dv fv p m):sl lb W dv p:=by obtain⟨⟨D,i,j⟩,-⟩:=h;obtain⟨l,hx⟩:=OL.own j;exact⟨OL.reads j fun f d ⟨a,e,b⟩=>⟨a,e,b.mono fun k B=>⟨(i k B).1,(i k B).2.1⟩⟩,fun g c=>iB hx g c⟩
theorem OD.acI (h:OD lb W dv p):sl lb W dv p:=by obtain⟨l,hx⟩:=OL.own h;exact⟨OL.reads h fun f d ⟨a,e,b⟩=>⟨a,e,(nN.of b).mono fun k B=>⟨B.1,B.2.lt⟩⟩,fun g c=>iB hx g c⟩
end
section
variable {x:fS} {c:kc} {a b:Int} (hx:iF x c a b) (g o:Nat) (c1:Nat) (A2:Option Addr) (c2:Nat) (dm:Int) (A0:Option Addr) (n0 c0:Nat)
include hx
theorem ad5 (b:Int) (w:World) (hm:qk w g o dm A0 n0 c0 c) (hr:iz w (.agg (xC x (pA g o) c1 A2 c2).toArray) x) (V:b<=9223372036854775807):
  Calls prog 132 #[.agg (xC x (pA g o) c1 A2 c2).toArray,b] w fun e w'=>
   ∃dv q,e=.returned (.tuple #[.agg #[dv],Zo])/\qn x.days c.size c.start q/\sl w w' dv (ep q)/\Below w w w':=by
 have al: ∀w:World,(Instr.makeSlice 23 (x.eB.length:Int) (x.eB.length:Int)).run prog w=.ok (.slice w 1 1) (w.alloc (cB 26 [()])):=fun w=>by rw[hx.len];exact acD w
 have ak:=hx.hd;obtain⟨n,hn⟩: ∃n:Nat,x.days=n:=⟨x.days.toNat,oG⟩;have Z:n<=64:=oG;have af:=zH fun w0 P W (hr:iz w0 (.agg (xC x (pA g o) c1 A2 c2).toArray) x) hgp hc h0=>adt 170 (P+1) n (.inl rfl) (afo x (pA g o) c1 A2 c2 b w0 P) W Z hc h0 (fun k W' B h=>Uj hx (pA g o) c1 A2 c2 b w0 P k W' hr hgp oG h);have ae:=zH fun P lv l W Q h2 h3=>adX hx g o c1 A2 c2 dm A0 n0 c0 P lv l W Q h2 h3;have ag:=zH fun lb rb vv q v0 p0 f0 pr w0 W Q h2 h3 h4 h5 h6 h7=>aex hx (pA g o) c1 A2 c2 lb rb vv q b v0 p0 f0 pr w0 W Q h2 h3 V h4 h5 h6 h7;obtain⟨HL,HN,HM,HR⟩:=Zd hx.len hn hm hr;clear hm hr ak hn;go_enter func132,ntmps132;go_upto_region 1 with fail
 have F:=(fc.new w 25 (xC x (pA g o) c1 A2 c2)).alloc (cB 30 [()]);have I:=fc.fW (w.alloc (cB 25 (xC x (pA g o) c1 A2 c2))) 30 [()] (g:=w.heap.size+1) sI;have v:=bL (bL (bS w w) (cB 25 (xC x (pA g o) c1 A2 c2))) (cB 30 [()]);have z:((w.alloc (cB 25 (xC x (pA g o) c1 A2 c2))).alloc (cB 30 [()])).heap.size=w.heap.size+2:=sI;revert F I v z;generalize ((w.alloc (cB 25 (xC x (pA g o) c1 A2 c2))).alloc (cB 30 [()]))=a;intro F I v z;have ai:=zH z;clear z;obtain⟨k0,k1,k2,k3,k4,k5,-⟩:=F.iY;have H:=F.lt;refine rB [] fun hS=>?_;refine kL [0,1,2,3,4] ?_;refine tO 5 fun K R=>?_;go_simp;have bp:=(fc.new a 26 [()]).drew;have S:=(bL (bS a a) (cB 26 [()])).drew;have hS:=S;refine R _ _ (hS) ?_;refine kL [6] ?_;refine tO 7 fun K R=>?_;go_simp;have m:=(bL (bL (bS a a) (cB 26 [()])) (cB 234 (hzC x (pA g o) c1 A2 c2 () b () () (.slice a 1 1)))).drew;have s:=((fc.new a 26 [()]).alloc (cB 234 (hzC x (pA g o) c1 A2 c2 () b () () (.slice a 1 1)))).drew;have j:=(fc.fW (a.alloc (cB 26 [()])) 234 (hzC x (pA g o) c1 A2 c2 () b () () (.slice a 1 1)) (g:=a.heap.size+1) sI).drew;have hS:=m;refine R _ _ (hS) ?_;refine kL [8] ?_;refine tD ?_;clear S hS bp k0 k1 k2 k3 k4 k5 H al;revert m s j;generalize ((a.alloc (cB 26 [()])).alloc (cB 234 (hzC x (pA g o) c1 A2 c2 () b () () (.slice a 1 1)))).drew=W2;intro m s j;go_wp2_with fail;refine(af a a W2 (HR.below v lE) lE (by rw[<-HN.out];exact j.c 0) ⟨j,⟨_,[],rfl,s,gL _ _ _ _⟩,m⟩).mono ?_;rintro e w3 ⟨rfl,hO⟩;obtain⟨E,⟨lv,l,hl,D,r⟩,f⟩:=hO;have L:=zH r;obtain⟨Al,cl,rfl,-⟩:=r.slice;have G:=F.below f F.lt;have aq:=I.below f I.lt;clear r hl F s j m;go_wp2_with fail;go_loopw [21] (fun iv wr=>iv=.int .i64 0/\wr=w3) (fun iv _=>8-(intOf iv).toNat)
 case atStart=>exact⟨rfl,rfl⟩
 case round=>obtain⟨rfl,rfl⟩:=hrel;have ao:(0:Int)<8:=dE;obtain⟨k0,k1,k2,k3,k4,k5,-⟩:=G.iY;have H:=G.lt;have d:=E.iY;simp only[im,Nat.reduceAdd] at d;obtain⟨d0,d1,d2,d3,d4,d5,d6,d7,d8,d9,aj,-⟩:=d;have lw:=E.lt;go_wp2_with fail;refine rB [] fun hS=>?_;refine kL [0,1,2,3,4] ?_;refine tO 5 fun K R=>?_;go_simp;have X:=v.trans ((f.trans (hS.mono f.size)).mono v.size);refine(ae a (.slice Al l cl) l _ (HM.below X lE) ((D.below hS D.lt).c 0) (L.below hS lE).reads).mono ?_;rintro e w4 ⟨vv,q,rfl,hq,Y,T⟩;obtain⟨HQ,HC⟩:=Zb hq Y;obtain⟨gv,O,lv,rfl,-⟩:=Y.open_;have u:=hS.trans (T.mono hS.size);have aa:=hS.size;have hS:=u;refine R _ _ (hS) ?_;refine kL [6,7,8,9,10] ?_;refine tD ?_;have A:=f.trans (u.mono f.size);have J:=zH (HC.mono (show a.heap.size+2<=_ by omega));have M:=E.below u lw;have C:a.heap.size+1<a.heap.size+2/\a.heap.size+2<=w4.heap.size:=⟨oG,by have:=u.size;omega⟩;clear k0 k1 k2 k3 k4 k5 H d0 d1 d2 d3 d4 d5 d6 d7 d8 d9 aj lw hS X T HC aa G L D;go_wp2_with fail;refine(ag (a+2) (a+1) (.slice gv 1 O) q _ _ _ _ a w4 (HR.below v lE) oG HQ M J A C).mono ?_;rintro e w5 ⟨rfl,an⟩;obtain⟨⟨dv,fv,N,y⟩,-,U,-⟩:=an;rw[gh] at y;have ah:=zH y;obtain⟨⟨Ad,cd,rfl⟩,-⟩:=y.slice;have t:=I.below U I.lt;have d8:=N.c 8;have lw:=N.lt;have lr:=t.lt;have fr:=t.frozen 0;have r0:=t.c 0;clear y M J A C;go_wp2_with fail;refine bodyPost_ret (iw rfl _ _ (w+1) 30 [.slice Ad (ep q).length cd] _ Zo rfl rfl (t.gH 0 _) underlying30 rfl gB) rfl ⟨_,q,rfl,HQ.out,(ah.out.low (g:=w.heap.size+1) (i:=0) (by have:=ai.out;omega)).acI.mono (by have:=v.size;omega),(v.trans (U.mono v.size)).setCell (p:=pB (w+1)) dO _⟩
end
end
section
open Go.Proofs.Tryz
open Go.RowKit jm ko Et kN J8
theorem Ex {q:List Int} (I: ∀z∈q,0<=z/\z<=2147483648) {n:Nat} (a:n=1) {i:Nat} {d:Dy} (h:(ep q)[i]? =some d):jS n 4000 d/\ ∀t∈d,t≠[]:=by subst a;obtain⟨H,T⟩:=ady I d (a8 h);exact⟨⟨H.1,eZ H.2 dE⟩,T⟩
section
variable {x:fS} {c:kc} {a b:Int} (hx:iF x c a b) (A1:Option Addr) (c1:Nat) (A2:Option Addr) (c2:Nat)
include hx
theorem acZ (w:World):Calls prog 276 #[.agg (xC x A1 c1 A2 c2).toArray,Zo] w fun e w'=>e=.returned true/\Below w w w':=by
 obtain⟨W,hW,⟨j,-⟩,f,-⟩:=sk w [(25,xC x A1 c1 A2 c2)];simp only[Hk] at hW;have u:=j.c 4;have a:(0:Int)<x.eB.length:=by rw[hx.len];decide
 have r:=j.lt;go_enter func276,ntmps276;go_wp2_with fail;go_ret;refine⟨?_,f⟩;show Ending.returned (.bool (decide (0<x.eB.length)))=_;rw[hx.len];rfl
theorem adK (dv:Value) (q:List Int) (w:World) (I:qn x.days c.size c.start q) (G:jP w dv (ep q)):
  Calls prog 277 #[.agg #[dv],Zo] w fun e w'=> ∃ai,e=.returned (.agg #[ai])/\OD w w' ai (List.replicate q [])/\Below w w w':=by
 have n:=zH fun i d h=>Ex I.bd hx.len (i:=i) (d:=d) h;have ay:=zH fun tv d W H T=>Gt tv d x.eB 4000 0 W H T dE;have af:Hid (∀d:Dy,jS x.eB 4000 d->(∀t∈d,t≠[])->(∀t∈d,∀s∈t,s.1≠0)->d=[]):=zH fun d H T h3=>by
  cases d with
  |nil=>rfl
  |cons t d=>
   cases t with
   |nil=>exact absurd rfl (T [] (.head _))
   |cons s t=>
    have h4:=(H.1 _ (.head _)) s (.head _);have h5:=h3 _ (.head _) s (.head _);have:=h4.1;rw[hx.len] at this;omega
 have C:q.length<=64:=by have:=I.len;have:=hx.hd;omega
 have k:(ep q).length=q.length:=o5 q;obtain⟨P,hP⟩:=nR (ep q);rw[hP] at G n k;have HP:=zH G;obtain⟨Ap,cp,rfl,-⟩:=G.open_;have aC:=zH k;have aj:P.length<=64:=oG;rw[<-k];clear G hP C k;obtain⟨W,hW,⟨m,u,D,-⟩,f,ae⟩:=sk w [(30,[.slice Ap P cp]),(30,[()]),(30,[()])];simp only[Hk] at hW;have k0:=m.c 0;have y:=m.lt;have ar:=u.lt;have Z:=D.lt;go_enter func277,ntmps277;go_wp2_with fail;clear hW k0 y ar Z;go_loopw [13] (fun iv wr=> ∃(i:Nat) (qv:Value),i<=P/\iv=.int .i64 i/\fc wr w 30 [.slice Ap P cp]/\fc wr (w+1) 30 [()]/\fc wr (w+1+1) 30 [qv]/\Hid (OD (w+3) wr qv (List.replicate i []))/\Below w w wr/\w.heap.size+3<=wr) (fun iv _=>P.length-(intOf iv).toNat)
 case atStart=>exact⟨0,_,eC _,rfl,m,u,D,(OL.jL _ _ _ _ _),f,D.lt⟩
 case round=>
  clear m u D f;obtain⟨i,qv,hi,rfl,m,u,D,HO,f,ae⟩:=hrel;obtain⟨Aq,cq,rfl,-⟩:=HO.slice;rw[Xt] at HO;by_cases B:i<P
  ·obtain⟨d,Y⟩:=ec B;obtain⟨A,c',e,-,-,hc⟩:=jP.open_ (HP.below f lE);cases e;obtain⟨g,o,rfl,al,tv,l,y0⟩:=hc i d Y;obtain⟨HD,E⟩:=Zb (n i d Y) l;obtain⟨At,ct,rfl,-⟩:=l.open_;have k0:=m.c 0;have y:=m.lt;clear l hc Y;go_wp2_with fail;have a:=bL (bS wr wr) (cB 39 [.slice At d ct]);refine(ay _ d _ (iK.below E a lE) HD.1).mono ?_;rintro e J ⟨rv,d',z,rfl,aa,ak,aw,au,F⟩;obtain rfl:=af d' ak aw au;obtain⟨Ar,cr,rfl,-⟩:=aa.slice;have ah:=zH aa;have b:=a.trans (F.mono a.size);have M:=m.below b m.lt;have R:=u.below b u.lt;have O:=D.below b D.lt;have ag:=zH (HO.below b lE);have X:=f.trans (b.mono f.size);have aE:=b.size;clear k0 y y0 al a F b m u D HO HD E aa ak aw au f;go_upto_region 6 with fail
   have a:=bL (bS J J) (cB 39 [.slice Ar 0 cr]);have K:=zH (ag.below a lE);have L:=zH ((OT.below ah a lE).mono (show w.heap.size+3<=_ by simp;omega));have N:=M.below a M.lt;have S:=R.below a R.lt;have r:=O.below a O.lt;have U:=X.trans (a.mono X.size);have az:=a.size;have y5:=(fc.new J 39 [.slice Ar 0 cr]).c 0;have ao:J.heap.size<(J.alloc (cB 39 [.slice Ar 0 cr])).heap.size:=sI;have j:w.heap.size+3<=(J.alloc (cB 39 [.slice Ar 0 cr])).heap.size:=oG;clear ag ah M R O X az;revert K L N S r U y5 ao j;clear a;generalize J.alloc (cB 39 [.slice Ar 0 cr])=w5;intro K L N S r U y5 ao j;have q0:=r.c 0;have Z:=r.lt;have aq:(List.replicate i ([]:Dy)).length<=1000000000:=by rw[Xt];omega
   go_wp2_with ((refine afp w5 rfl (.tmp 24) (.tmp 26) rfl (w+3) _ (List.replicate i []) K rfl _ [] L rfl sI aq j ?_;intro g7 aA w7 ax aD aB an aF;have Q:=r.below (an.below j) oG;have r7:=Q.c 0;have f7:=Q.frozen 0));go_roundw
   case rel=>
    have V:=an.below j;have e:List.replicate i ([]:Dy)++[[]]=List.replicate (i+1) []:=by rw[afU]
    rw[e,Xt] at ax;refine⟨i+1,_,B,by go_num,(N.below V oG).kj (p:=pB (w+1+1)) dO _,(S.below V oG).kj (p:=pB (w+1+1)) dO _,Q.gH 0 _,(ft.fG (q:=(pB (w+1+1))) ax dO _),(U.trans (V.mono oG)).setCell (p:=pB (w+1+1)) dO _,by simp[World.setCell];omega⟩
   case measure=>exact mI
  ·obtain rfl:i=P.length:=oG;have q0:=D.c 0;have Z:=D.lt;have ar:=u.lt;have fr:=u.frozen 0;have r0:=u.c 0;go_wp2_with fail;refine bodyPost_ret (v:=.agg #[_]) (ia rfl _ _ (w+1) 30 [.slice Aq P cq] _ rfl (u.gH 0 _) underlying30 rfl gB) rfl ⟨_,rfl,(ft.fG (q:=(pB (w+1))) HO dO _).mono oG,f.setCell (p:=pB (w+1)) dO _⟩
theorem aew (dv:Value) (q:List Int) (w:World) (t:iz w (.agg (xC x A1 c1 A2 c2).toArray) x) (I:qn x.days c.size c.start q) (G:jP w dv (ep q)):
  Calls prog 279 #[.agg (xC x A1 c1 A2 c2).toArray,.agg #[dv]] w fun e w'=>e=.returned true/\Below w w w':=by
 have n:=zH fun i d (h:(ep q)[i]? =some d)=>And.intro (Ex I.bd hx.len h) (show GoD x d from by
  unfold ep at h;rw[fh] at h;cases p:q[i]? with
  |none=>rw[p] at h;cases h
  |some z=>rw[p] at h;cases h;exact hx.goD (I.bd z (a8 p)))
 have s:=zH fun tv d W H T h3=>zY (.agg (xC x A1 c1 A2 c2).toArray) tv x d 4000 W H hx.ok T h3 dE;have k:(ep q).length=q.length:=o5 q;have C:q.length<=64:=by have:=I.len;have:=hx.hd;omega
 obtain⟨P,hP⟩:=nR (ep q);rw[hP] at G n k;obtain⟨HP,v⟩:=Zb G t;obtain⟨Ap,cp,rfl,-⟩:=G.open_;have aj:P.length<=64:=oG;clear G hP C k t;obtain⟨W,hW,⟨j,m,-⟩,f,ae⟩:=sk w [(25,xC x A1 c1 A2 c2),(30,[.slice Ap P cp])];simp only[Hk] at hW;have k0:=m.c 0;have y:=m.lt;go_enter func279,ntmps279;go_wp2_with fail;clear hW k0 y m ae;go_loopw [10] (fun iv wr=> ∃i:Nat,i<=P/\iv=.int .i64 i/\fc wr w 25 (xC x A1 c1 A2 c2)/\Below w w wr) (fun iv _=>P.length-(intOf iv).toNat)
 case atStart=>exact⟨0,eC _,rfl,j,f⟩
 case round=>
  clear j f;obtain⟨i,hi,rfl,j,f⟩:=hrel;by_cases B:i<P
  ·obtain⟨d,Y⟩:=ec B;obtain⟨A,c',e,-,-,hc⟩:=jP.open_ (HP.below f lE);cases e;obtain⟨g,o,rfl,al,tv,l,y0⟩:=hc i d Y;obtain⟨HD,E⟩:=Zb (n i d Y) l;obtain⟨At,ct,rfl,-⟩:=l.open_;obtain⟨k0,D,K,L,u,M,-⟩:=j.iY;have r:=j.lt;clear l hc Y;go_wp2_with fail;have a:=bL (bS wr wr) (cB 39 [.slice At d ct]);refine(s _ d _ (v.below (f.trans (a.mono f.size)) lE) (iK.below E a lE) HD.1.1).mono ?_;rintro e J ⟨z,rfl,p,F⟩;obtain rfl:=p.2 HD.2;have b:=a.trans (F.mono a.size);clear p k0 D K L u M y0;go_wp2_with fail;go_roundw
   case rel=>exact⟨i+1,B,by go_num,j.below b r,f.trans (b.mono f.size)⟩
   case measure=>exact mI
  ·obtain rfl:i=P.length:=oG;go_wp2_with fail;go_ret;exact⟨rfl,f⟩
end
end
section
open Go.Proofs.Tryz
open Go.RowKit jm ko Et kN J8
section
variable {x:fS} {c:kc} {a b:Int} (hx:iF x c a b) (g o:Nat) (c1:Nat) (A2:Option Addr) (c2:Nat) (dm:Int) (A0:Option Addr) (n0 c0:Nat)
include hx
theorem adu (dv:Value) (m:Nat) (w:World) (hm:qk w g o dm A0 n0 c0 c) (hr:iz w (.agg (xC x (pA g o) c1 A2 c2).toArray) x) (aL:m<=64) (hp:jP w dv (List.replicate m [])):
  Calls prog 307 #[.agg (xC x (pA g o) c1 A2 c2).toArray,.agg #[dv],Zo] w fun e w'=> ∃lv l,e=.returned lv/\gx w' .i64 lv l/\Below w w w':=by
 have aE:=zH fun W=>acZ hx (pA g o) c1 A2 c2 W;have aC:=zH fun Ad cd q W h1 h2=>vK x (pA g o) c1 A2 c2 Ad cd [] 0 q W h1 hx.ok h2 (jS.jL _ _) (fun t h=>by cases h);have ag:=zH fun tv d W h1 h2 h3=>xI (.agg (xC x (pA g o) c1 A2 c2).toArray) tv x d 4000 W h1 hx.ok h2 h3 dE;obtain⟨HP,HR,HM,HL⟩:=Zd hp hr hm hx.len;obtain⟨Ap,cp,rfl,-⟩:=hp.open_;rw[Xt] at HP;rw[Xt];clear hp hr hm;obtain⟨W,hW,⟨k,R,-⟩,n,aA⟩:=sk w [(25,xC x (pA g o) c1 A2 c2),(30,[.slice Ap m cp])];simp only[Hk] at hW;obtain⟨k0,k1,k2,k3,L,k5,-⟩:=k.iY;have f:=k.lt;have H:=R.lt;go_enter func307,ntmps307;go_upto_region 2 with fail
 clear hW;have J:W.heap.size=w.heap.size+2:=by rw[aA];rfl
 have s:=fc.fW W 84 [Zo,.int .i64 1] (g:=w.heap.size+2) J.symm;have a:=bL (bS W W) (cB 84 [Zo,.int .i64 1]);have aG:=k.below a f;have aF:=R.below a H;have aH:=n.trans (a.mono n.size);clear aA J a k R n k0 k1 k2 k3 L k5 f H;revert s aG aF aH;generalize W.alloc (cB 84 [Zo,.int .i64 1])=W1;intro s k R n;obtain⟨k0,k1,k2,k3,L,k5,-⟩:=k.iY;have f:=k.lt;go_wp2_with fail;refine(aE W1).mono ?_;rintro e w2 ⟨rfl,y⟩;have E:=k.below y k.lt;have S:=R.below y R.lt;have al:=s.below y s.lt;have b:=n.trans (y.mono n.size);have y0:=(HM.below b lE).y0;have X:=(HM.below b lE).lt;have ay:(0:Int)<x.eB.length:=by rw[HL.out];decide
 clear k0 k1 k2 k3 L k5 f k R s n y;have L:=E.c 4;have f:=E.lt;have p0:=S.c 0;have H:=S.lt;go_wp2_with fail;clear L f p0 H y0 X ay;go_loopw [8,38] (fun lv iv wr=> ∃(i:Nat) (l:List Int),i<=m/\l.length=i/\iv=.int .i64 i/\fc wr w 25 (xC x (pA g o) c1 A2 c2)/\fc wr (w+2) 84 [Zo,.int .i64 1]/\Hid (OI (w+3) wr lv l)/\Below w w wr) (fun _ iv _=>m-(intOf iv).toNat)
 case atStart=>exact⟨0,[],eC _,rfl,rfl,E,al,(OI.jL _ _),b⟩
 case round=>
  clear E S al b;obtain⟨i,l,hi,az,rfl,k,s,HO,n⟩:=hrel;obtain⟨Al,cl,rfl,-⟩:=HO.slice;by_cases Z:i<m
  ·have hd:(List.replicate m ([]:Dy))[i]? =some []:=by rw[rW,if_pos Z]
   have aj:=HP.below n lE;obtain⟨A,c',e,-,-,hc⟩:=jP.open_ aj;rw[Xt] at e;cases e;obtain⟨gp,op,rfl,X,tv,af,y0⟩:=hc i [] hd;have ak:=zH af;obtain⟨At,ct,rfl,-⟩:=af.open_;obtain⟨k0,k1,k2,k3,L,k5,-⟩:=k.iY;have f:=k.lt;have s0:=s.c 0;have s1:=s.c 1;have aJ:=s.lt;have C:=zH az;clear af hc hd aj az;go_wp2_with fail;have a:=bL (bS wr wr) (cB 39 [.slice At 0 ct]);have bd:=fc.new wr 39 [.slice At 0 ct];have P:=zH (iK.below ak a lE);refine(aC At ct 1 _ (HR.below (n.trans (a.mono n.size)) lE) P).mono ?_;rintro e w3 ⟨aM,d',bb,rfl,ae,ar,-,G⟩;obtain⟨Ar,cr,rfl,-⟩:=ae.slice;obtain⟨ai,aB⟩:=Zb ae.reads ar;have U:=a.trans (G.mono a.size);have Q:=bd.below G bd.lt;have I:=zH (iK.below P G lE);clear ae ar a G bd P ak y0 X k0 k1 k2 k3 L k5 s0 s1 f aJ;go_upto_region 10 with fail
   have a:=bL (bS w3 w3) (cB 39 [.slice Ar d' cr]);have be:=fc.new w3 39 [.slice Ar d' cr];have u:=Q.below a Q.lt;obtain⟨N,O⟩:=Zb (iK.below ai a lE) (iK.below I a lE);have p:=U.trans (a.mono U.size);clear Q ai I U a;revert be u N O p;generalize w3.alloc (cB 39 [.slice Ar d' cr])=w4;intro be u N O p;have F:=k.below p k.lt;have D:=s.below p s.lt;have ah:=zH (OI.below HO p lE);have b:=n.trans (p.mono n.size);obtain⟨e1,au⟩:=nE wr;obtain⟨e2,aw⟩:=nE w3;rw[<-au] at u|-
   rw[<-aw] at be|-
   clear au aw p n k s HO;obtain⟨k0,k1,k2,k3,L,k5,-⟩:=F.iY;have f:=F.lt;have q1:=u.c 0;have q2:=be.c 0;have ay:=u.lt;have aN:=be.lt;cases bb with
   |false=>
    have V:=b.trans (bF.mono b.size);have T:=F.below bF f;have v:=D.below bF D.lt;have M:=zH (OI.below ah bF lE);have B:l.length<=1000000000:=by have:=C.out;omega
    have j:w.heap.size+3<=(w4).heap.size:=by have:=v.lt;omega
    go_wp2_with ((refine qu (w4) rfl (.tmp 58) (.tmp 60) rfl (w+3) _ l M rfl (4294967296) rfl rfl B j ?_;intro g7 an w7 aa aI ax Y aK));have r:=Y.below j;go_roundw
    case rel=>exact⟨i+1,l++[(4294967296)],Z,by rw[fa,C.out];rfl,by go_num,T.below r oG,v.below r oG,aa,V.trans (r.mono oG)⟩
    case measure=>exact mI
   |true=>
    go_upto_region 11 with fail
    refine rB [] fun hS=>?_;refine kL [0,1,3,4] ?_;refine tO 2 fun K hK=>?_;go_simp;refine(ag _ d' _ (HR.below (b.trans (hS.mono b.size)) lE) (iK.below N hS lE) aB).mono ?_;rintro e w5 ⟨rfl,z⟩;obtain⟨C1,ao⟩:=nR (me (d'.map (uA x)));rw[ao];have hS:=hS.trans (z.mono hS.size);clear z ao;refine hK _ _ (hS) ?_;refine tO 5 fun K hK=>?_;go_simp;refine(ag _ [] _ (HR.below (b.trans (hS.mono b.size)) lE) (iK.below O hS lE) (jS.jL _ _)).mono ?_;rintro e w6 ⟨rfl,z⟩;obtain⟨C2,aq⟩:=nR (me (([]:Dy).map (uA x)));rw[aq];have hS:=hS.trans (z.mono hS.size);clear z aq;refine hK _ _ (hS) ?_;refine kL [6] ?_;refine tO 7 fun K hK=>?_;go_simp;refine hK _ _ (hS) ?_;refine kL [8] ?_;refine tD ?_;have V:=b.trans ((hS).mono b.size);have T:=F.below (hS) f;have v:=D.below (hS) D.lt;have M:=zH (OI.below ah (hS) lE);have B:l.length<=1000000000:=by have:=C.out;omega
    have j:w.heap.size+3<=(w6).heap.size:=by have:=v.lt;omega
    go_wp2_with ((refine qu (w6) rfl (.tmp 58) (.tmp 60) rfl (w+3) _ l M rfl (_) rfl rfl B j ?_;intro g7 an w7 aa aI ax Y aK));have r:=Y.below j;go_roundw
    case rel=>exact⟨i+1,l++[(_)],Z,by rw[fa,C.out];rfl,by go_num,T.below r oG,v.below r oG,aa,V.trans (r.mono oG)⟩
    case measure=>exact mI
  ·obtain rfl:i=m:=oG;have aD:=zH HO.reads;go_wp2_with fail;go_ret;exact⟨_,l,rfl,aD,n⟩
end
end
end Go.Proofs.YtgimnjldndkalaaGreatDoor
