/- Of the proof of TopCosts: The walk of whether a move of a day may be made, and of what. -/
import Derived.Laws.EntriesVeiled
import Derived.Test.YtgimnjldndkalaaGreatDoorF11
set_option linter.all false
set_option maxHeartbeats 8000000
set_option maxRecDepth 100000
namespace Go.Proofs.YtgimnjldndkalaaGreatDoor
section
open Go.Proofs.Tryz
open Go.RowKit jm ko kN J8
def lC: ∀(r:List Pc),(kJ r).length=4*r.length
 | []=>rfl
 |p::r=>by unfold kJ at*;rw[gG,fa];have:=lC r;unfold kJ at this;rw[this,ff];simp[VM];omega
def oU (r:List Pc):(kJ r).all (fun u=>u.oneCell')=true:=by
 rw[dT];intro u a;obtain⟨p,_,a⟩:=qR.1 a;simp only[VM,fC,iy,or_false] at a
 rcases a with rfl|rfl|rfl|rfl <;>rfl
inductive Cg (d:Dy) (a b:Int) (w:World) (e:Ending) (w':World):Prop
 |mk (r1 r2:List Pc) (ok:Bool) (he:e=.returned (.tuple #[.agg (kJ r1).toArray,.agg (kJ r2).toArray,ok])) (hr:FM d a b r1 r2 ok) (hb:Below w w w')
def QP:(prog.info? 395).map (·.size)=some 2:=kR
def SJ:(prog.info? 400).map (·.size)=some 7:=kR
def Oc (q:Value) (d:Dy) (k a b i j:Int) (w:World) (r:RL 1 jf w q d) (p:k<0\/(0<=k/\3<k)\/(0<=k/\k<=3/\a<0)\/(0<=k/\k<=3/\0<=a/\(d.length:Int)<=a)\/(0<=k/\k<=3/\0<=a/\a<d/\b<0)\/(0<=k/\k<=3/\0<=a/\a<d/\0<=b/\(d.length:Int)<=b)):
  Calls prog 311 #[.agg #[q],.agg #[k,a,b,i,j]] w (Cg d a b w):=by
 obtain⟨A,c,rfl,-⟩:=iK.open_ r;clear r;have s:=(fc.fW ((w.alloc (cB 39 [.slice A d c])).alloc (cB 320 [k,a,b,i,j])) 355 gO (g:=w.heap.size+1+1) sI).alloc (cB 355 gO);have t:=fc.fW (((w.alloc (cB 39 [.slice A d c])).alloc (cB 320 [k,a,b,i,j])).alloc (cB 355 gO)) 355 gO (g:=w.heap.size+1+1+1) sI;have e:=bL (bL (bL (bL (bS w w) (cB 39 [.slice A d c])) (cB 320 [k,a,b,i,j])) (cB 355 gO)) (cB 355 gO)
 rcases p with h|⟨h0,h⟩|⟨h0,h1,h⟩|⟨h0,h1,h2,h⟩|⟨h0,h1,h2,h3,h⟩|⟨h0,h1,h2,h3,h4,h⟩
 all_goals
  go_enter func311,ntmps311;go_wp2_with (first
   |(refine fH _ rfl 355 (.tmp 4) (.tmp 45) rfl (w+1+1) 355 _ _ s rfl rfl gZ rfl rfl ?_;intro x m f u)
   |(refine fH _ rfl 355 (.tmp 5) (.tmp 46) rfl (w+1+1+1) 355 _ _ (t.grown f sI) rfl rfl gZ rfl rfl ?_;intro y o l v))
  refine bodyPost_ret (uS rfl _ _ (w+1+1) (w+1+1+1) 355 355 _ _ _ _ _ rfl rfl rfl (m.grown l sI) o underlying355 rfl gZ underlying355 rfl gZ) rfl ⟨DT,DT,false,rfl,E7 d a b,?_⟩;exact qY (n:=0) e f l oG oG
def vl (G z J L M N O P:Value) (W:World):(Instr.index 396 (.agg #[G,z,J,L,M,N,O,P]) Zo).run prog W=.ok (.agg #[G,z]) W/\(Instr.index 396 (.agg #[G,z,J,L,M,N,O,P]) (.int .i64 1)).run prog W=.ok (.agg #[J,L]) W/\(Instr.index 396 (.agg #[G,z,J,L,M,N,O,P]) (.int .i64 2)).run prog W=.ok (.agg #[M,N]) W/\(Instr.index 396 (.agg #[G,z,J,L,M,N,O,P]) (.int .i64 3)).run prog W=.ok (.agg #[O,P]) W:=by simp[Instr.index,asIntOf,part,go_sem]
def KV (dv:Value) (d:Dy) (k:Int) (t x:Nat) (i j:Int) (ta tb:Tr) (w:World) (hd:RL 1 jf w dv d) (hk:k=0\/k=1\/k=2\/k=3) (F:d[t]? =some ta) (s:d[x]? =some tb)
  (bU:ta.length<=1000000) (bW:tb.length<=1000000):
  Calls prog 311 #[.agg #[dv],.agg #[k,(t:Int),(x:Int),i,j]] w (Cg d t x w):=by
 have aX:Hid ((t:Int)=x->(ta.length:Int)=tb):=zH (fun e=>by have e':t=x:=oG;subst e';rw[F] at s;cases s;rfl);have aj:Hid (∀H I,tW t x ta tb H I->FM d t x H I true):=zH (fun H I h=>KW oG oG (by simpa using F) (by simpa using s) h);have aD:=zH (E7 d t x);obtain⟨A,c,rfl,h1,h2,hc⟩:=iK.open_ hd;obtain⟨bd,od,rfl,aU,cD,V,ya⟩:=hc t ta F;obtain⟨aO,bB,aq,bE,cE,X,yb⟩:=hc x tb s;obtain⟨rfl,rfl⟩:bd=aO/\od=bB:=by simpa using aq
 obtain⟨Aa,ca,rfl,-⟩:=fQ.open_ V;obtain⟨Ab,cb,rfl,-⟩:=fQ.open_ X;have bH:=fP F;have bI:=fP s;have aW:0<=k/\k<=3:=oG;obtain⟨bJ,bO⟩:=aW;obtain⟨HK,ai,ah⟩:=Zc hk (Wq k (t:Int) (x:Int) i j (ta.length:Int) (tb.length:Int) oG) (V8 k (t:Int) (x:Int) i j (ta.length:Int) (tb.length:Int) oG);clear hd F s hc aq V X hk;go_enter func311,ntmps311;go_wp2_with fail;obtain⟨w1,af,⟨b1,Y,b4,b5,-⟩,a,-⟩:=sk w [(39,[.slice (pA bd od) d c]),(320,[k,(t:Int),(x:Int),i,j]),(355,gO),(355,gO)];simp only[Hk] at af;rw[af];clear af;have l1:=b1.lt;have lm:=Y.lt;have l4:=b4.lt;have l5:=b5.lt;have e1:=b1.c 0;have m0:=Y.c 0;have m1:=Y.c 1;have m2:=Y.c 2;have m3:=Y.c 3;have m4:=Y.c 4;replace ya:=a7 a lE ya;replace yb:=a7 a lE yb;have bG:=bP aU a.size;refine rB [19] fun hS=>?_;refine kL [0,1,2,3,4,5,6,7,8,9,10,11,12,13,14,15,16,17] ?_;refine tO 18 fun K B=>?_;go_simp;have ae:=hS.alloc hS.size (cB 400 [Zo,Zo,Zo,Zo,Zo,Zo,Zo]);refine B _ _ (ae) ?_;refine tL 19 fun K B=>?_;refine gY _ 400 (.tmp 8) (.tmp 64) rfl w1 400 _ _ (fc.fW w1.drew 400 [Zo,Zo,Zo,Zo,Zo,Zo,Zo] (g:=w1.heap.size) rfl) rfl rfl SJ rfl rfl ?_;intro w2 bV aw aY;have C:Below w1 w1 w2:=ae.grown aw sI (fun q T=>by cases T;omega);refine B _ _ ?_;refine tD ?_;have l7:=bV.lt;have q0:=(Y.below C lm).c 0;clear m0 m1 m2 m3 m4 e1 ya yb hS ae aw aY;go_wp2_with fail;have cC:=bP lm C.size;refine rB [5] fun hS=>?_;refine kL [1,2] ?_
 rcases HK with rfl|rfl|rfl|rfl
 all_goals
  refine u9 0 4 3 (f:=325) (args:= #[]) (v:=.agg #[.func (.func 342) #[] #[],.func (.func 343) #[] #[],.func (.func 344) #[] #[],.func (.func 345) #[] #[],.func (.func 346) #[] #[],.func (.func 347) #[] #[],.func (.func 348) #[] #[],.func (.func 349) #[] #[]]) rfl rfl rfl rfl rfl rfl dE dE dE kR kR kR kR kR 395 [.nilFunc,.nilFunc] hS (fun q h=>by cases h;decide) (fun q h=>by cases h;decide) jF (fun u W=>by go_simp) (fun W=>by go_simp)
   (fun W _=>by have T:=fun G z J L M N O P=>vl G z J L M N O P W;go_simp;try with_reducible rfl) (fun p W _=>by have T:=fun G z J L M N O P=>vl G z J L M N O P W;go_simp;try with_reducible rfl) (fun W _=>(Bi W).mono fun e w' h=>h) (fun W w' h hb=>h.trans (hb.mono h.size)) (fun a' W=>by go_simp) ?_
  intro g W Q aB aV aT;refine pU ?_;clear hS aT;have hS:=Q;refine tL 5 fun K B=>?_;refine gY _ 395 (.tmp 9) (.tmp 68) rfl g 395 _ _ (show fc W g 395 [.nilFunc,.nilFunc] from aB) rfl rfl QP rfl rfl ?_;intro w3 bK ay aZ;have R:Below w2 w2 w3:=Q.grown ay Q.size (fun q T=>by cases T;exact aV);refine B _ _ ?_;refine tD ?_;have b:=bV.below R l7;have v0:=b.c 0;have v1:=b.c 1;have v2:=b.c 2;have v3:=b.c 3;have v4:=b.c 4;have v5:=b.c 5;have v6:=b.c 6;have G:=bK.c 0;have z:=bK.c 1;have lg:=bK.lt;have aC:=bP l7 R.size;clear hS Q aB ay aZ q0;go_wp2_with fail;refine(ai _ oG oG).mono ?_;rintro e w4 ⟨ok,rfl,hp,D⟩;have l:Below w1 w1 w4:=(C.trans (R.mono C.size)).trans (D.mono (eZ C.size R.size));have aH:=b4.below l l4;have aK:=b5.below l l5;have o:=b.below D aC;have aN:=bK.below D lg;have HP:=zH hp;have v0:=o.c 0;have v1:=o.c 1;have v2:=o.c 2;have v3:=o.c 3;have v4:=o.c 4;have v5:=o.c 5;have v6:=o.c 6;have z:=aN.c 1;clear hp;cases ok
  ·go_wp2_with (first
    |(refine fH _ rfl 355 (.tmp 4) (.tmp 74) rfl (w+1+1) 355 _ _ aH rfl rfl gZ rfl rfl ?_;intro y aP az bY)
    |(refine fH _ rfl 355 (.tmp 5) (.tmp 75) rfl (w+1+1+1) 355 _ _ (aK.grown az sI) rfl rfl gZ rfl rfl ?_;intro w6 aQ m ag))
   refine bodyPost_ret (uS rfl _ _ (w+1+1) (w+1+1+1) 355 355 _ _ _ _ _ rfl rfl rfl (aP.grown m sI) aQ underlying355 rfl gZ underlying355 rfl gZ) rfl ⟨DT,DT,false,rfl,aD,?_⟩;exact qY (n:=0) (a.trans (l.mono a.size)) az m oG oG
  ·have aE:=zH (HP rfl);have cA:=bP lg D.size;have cj:=bP aC D.size;go_wp2_with fail;refine(ah aE _ oG oG aX).mono ?_;rintro e y ⟨H,I,rfl,hr,aR⟩;have r:Below w1 w1 y:=l.trans (aR.mono l.size);have aI:=b4.below r l4;have aL:=b5.below r l5;have cw:=r.size;have HR:=zH hr;have n1:=lC H;have n2:=lC I;rw[hr.l1] at n1;rw[hr.l2] at n2;have i1:(prog.info? 355).map (·.size)=some (kJ H).length:=by rw[n1];exact gZ
   have i2:(prog.info? 355).map (·.size)=some (kJ I).length:=by rw[n2];exact gZ
   obtain⟨I1,I2,N1,N2⟩:=Zd i1 i2 n1 n2;have U:=a.trans (r.mono a.size);obtain⟨R1,Z⟩:=nR (kJ H);obtain⟨R2,aa⟩:=nR (kJ I);have a1:=oU H;have a2:=oU I;rw[Z] at I1 N1 a1|-
   rw[aa] at I2 N2 a2|-
   obtain⟨aF,aG,A1,A2⟩:=Zd Z aa a1 a2;clear hr n1 n2 i1 i2 Z aa a1 a2;go_wp2_with (first
    |(refine fH _ rfl 355 (.tmp 10) (.tmp 81) rfl y 355 gO R1 ((fc.fW y 355 gO (g:=y.heap.size) rfl).alloc _) rfl rfl I1 N1.symm A1 ?_;intro w6 b6 m ag)
    |(refine fH _ rfl 355 (.tmp 11) (.tmp 82) rfl (y+1) 355 gO R2 ((fc.fW (y.alloc (cB 355 gO)) 355 gO (g:=y.heap.size+1) sI).grown m sI) rfl rfl I2 N2.symm A2 ?_;intro w7 b7 E bh))
   have ak:=b6.grown E sI;have aJ:=(((aI.alloc _).alloc _).grown m sO).grown E sO;have aM:=(((aL.alloc _).alloc _).grown m sO).grown E sO;have aS:Below w w w7:=((((U.alloc U.size _).alloc sO _)).grown m sO (fun q T=>by cases T;omega)).grown E (by rw[ag];simp;omega) (fun q T=>by cases T;omega);clear m ag E bh;refine rG (fun wS=>fc wS y 355 R1/\fc wS (y+1) 355 R2) [3,4] (⟨ak.drew,b7.drew⟩) fun hS=>?_;refine ki 0 (v:=.agg R1.toArray) rfl rfl kR jF (fun wS hSw=>?_) hS ?_
   ·refine nK wS 355 (.tmp 10) ?_ y 355 R1 _ ?_ hSw.1 underlying355 rfl I1
    ·rfl
    ·rfl
   refine pU ?_;refine ki 1 (v:=.agg R2.toArray) rfl rfl kR jF (fun wS hSw=>?_) hS ?_
   ·refine nK wS 355 (.tmp 11) ?_ (y+1) 355 R2 _ ?_ hSw.2 underlying355 rfl I2
    ·rfl
    ·rfl
   refine pU ?_;refine tO 2 fun K B=>?_;refine gY _ 355 (.tmp 4) (.tmp 83) rfl (w+1+1) 355 gO R1 aJ.drew rfl rfl I1 N1.symm A1 ?_;intro w8 b8 S bZ;refine B _ _ (⟨ak.drew.grown S sO,b7.drew.grown S sO⟩) ?_;refine tL 3 fun K B=>?_;refine gY _ 355 (.tmp 5) (.tmp 84) rfl (w+1+1+1) 355 gO R2 (aM.drew.grown S sI) rfl rfl I2 N2.symm A2 ?_;intro w9 b9 aA cg;refine B _ _ ?_;refine tL 4 fun K B=>?_;go_simp;refine B _ _ ?_;refine tD ?_;go_wp2_with fail;refine bodyPost_ret (uS rfl _ _ (w+1+1) (w+1+1+1) 355 355 _ _ _ _ _ rfl rfl rfl (b8.grown aA sI) b9 underlying355 rfl I1 underlying355 rfl I2) rfl ⟨H,I,true,by rw[aF.out,aG.out];rfl,aj H I HR,?_⟩;exact qY (n:=1) aS S aA oG oG
end
end Go.Proofs.YtgimnjldndkalaaGreatDoor
