/- Of the proof of TopGreat: The walk of whether a move of a day may be made, and of what. -/
import Derived.Laws.EntriesVeiled
import Derived.Test.YtgimnjldndkalaaGreatDoorF40
set_option linter.all false
set_option maxHeartbeats 8000000
set_option maxRecDepth 100000
namespace Go.Proofs.YtgimnjldndkalaaGreatDoor
section
open Go.Proofs.Tryz
open Go.RowKit jm ko kN J8
def lC: ∀(r:List Pc),(kJ r).length=4*r.length
 | []=>rfl
 |p::r=>by unfold kJ at*;rw[gG,fa];have:=lC r;unfold kJ at this;rw[this,ff];simp[VM];omega
def oU (r:List Pc):(kJ r).all (fun u=>u.oneCell')=true:=by
 rw[dT];intro u a;obtain⟨p,_,a⟩:=qR.1 a;simp only[VM,fC,iy,or_false] at a
 rcases a with rfl|rfl|rfl|rfl <;>rfl
inductive Cg (d:Dy) (k a b i j:Int) (w:World) (e:Ending) (w':World):Prop
 |mk (r1 r2:List Pc) (ok:Bool) (he:e=.returned (.tuple #[.agg (kJ r1).toArray,.agg (kJ r2).toArray,ok])) (hr:FM d a b r1 r2 ok) (hl:ok=true↔LK d k a b i j) (hb:Below w w w')
def QP:(prog.info? 395).map (·.size)=some 2:=kR
def SJ:(prog.info? 400).map (·.size)=some 7:=kR
def Oc (dv:Value) (d:Dy) (k a b i j:Int) (w:World) (t:RL 1 jf w dv d) (s:k<0\/(0<=k/\3<k)\/(0<=k/\k<=3/\a<0)\/(0<=k/\k<=3/\0<=a/\(d.length:Int)<=a)\/(0<=k/\k<=3/\0<=a/\a<d/\b<0)\/(0<=k/\k<=3/\0<=a/\a<d/\0<=b/\(d.length:Int)<=b)):
  Calls prog 311 #[.agg #[dv],.agg #[k,a,b,i,j]] w (Cg d k a b i j w):=by
 obtain⟨A,c,rfl,-⟩:=iK.open_ t;clear t;have u:=(fc.fW ((w.alloc (cB 39 [.slice A d c])).alloc (cB 320 [k,a,b,i,j])) 355 gO (g:=w.heap.size+1+1) sI).alloc (cB 355 gO);have v:=fc.fW (((w.alloc (cB 39 [.slice A d c])).alloc (cB 320 [k,a,b,i,j])).alloc (cB 355 gO)) 355 gO (g:=w.heap.size+1+1+1) sI;have e:=bL (bL (bL (bL (bS w w) (cB 39 [.slice A d c])) (cB 320 [k,a,b,i,j])) (cB 355 gO)) (cB 355 gO)
 rcases s with h|⟨h0,h⟩|⟨h0,m,h⟩|⟨h0,m,o,h⟩|⟨h0,m,o,p,h⟩|⟨h0,m,o,p,h4,h⟩
 all_goals
  go_enter func311,ntmps311;go_wp2_with (first
   |(refine fH _ rfl 355 (.tmp 4) (.tmp 45) rfl (w+1+1) 355 _ _ u rfl rfl gZ rfl rfl ?_;intro G q f x)
   |(refine fH _ rfl 355 (.tmp 5) (.tmp 46) rfl (w+1+1+1) 355 _ _ (v.grown f sI) rfl rfl gZ rfl rfl ?_;intro H r l y))
  refine bodyPost_ret (uS rfl _ _ (w+1+1) (w+1+1+1) 355 355 _ _ _ _ _ rfl rfl rfl (q.grown l sI) r underlying355 rfl gZ underlying355 rfl gZ) rfl ⟨DT,DT,false,rfl,E7 d a b,⟨nF,fun⟨m,C,D,E,F,z,B,o,p,_⟩=>by have:=fP o;have:=fP p;exfalso;omega⟩,?_⟩;exact qY (n:=0) e f l oG oG
def vl (H C L M N O P Q:Value) (W:World):(Instr.index 396 (.agg #[H,C,L,M,N,O,P,Q]) Zo).run prog W=.ok (.agg #[H,C]) W/\(Instr.index 396 (.agg #[H,C,L,M,N,O,P,Q]) (.int .i64 1)).run prog W=.ok (.agg #[L,M]) W/\(Instr.index 396 (.agg #[H,C,L,M,N,O,P,Q]) (.int .i64 2)).run prog W=.ok (.agg #[N,O]) W/\(Instr.index 396 (.agg #[H,C,L,M,N,O,P,Q]) (.int .i64 3)).run prog W=.ok (.agg #[P,Q]) W:=by simp[Instr.index,asIntOf,part,go_sem]
def KV (dv:Value) (d:Dy) (k:Int) (r s:Nat) (i j:Int) (U V:Tr) (w:World) (hd:RL 1 jf w dv d) (hk:k=0\/k=1\/k=2\/k=3) (x:d[r]? =some U) (o:d[s]? =some V)
  (bJ:U.length<=1000000) (bO:V.length<=1000000):
  Calls prog 311 #[.agg #[dv],.agg #[k,(r:Int),(s:Int),i,j]] w (Cg d k r s i j w):=by
 have aT:Hid ((r:Int)=s->(U.length:Int)=V):=zH (fun e=>by have e':r=s:=oG;subst e';rw[x] at o;cases o;rfl);have an:Hid (∀I J,tW r s U V I J->FM d r s I J true):=zH (fun I J h=>KW oG oG (by simpa using x) (by simpa using o) h);have aA:=zH (E7 d r s);have aj:Hid (KP k r s i j U V.length↔LK d k r s i j):=zH ⟨fun h=>⟨oG,r,s,U,V,rfl,rfl,x,o,h⟩,fun⟨_,aX,aY,cA,cC,e1,e2,h1,h2,h⟩=>by obtain rfl:aX=r:=oG;obtain rfl:aY=s:=oG;rw[x] at h1;rw[o] at h2;cases h1;cases h2;exact h⟩;obtain⟨A,c,rfl,h1,h2,hc⟩:=iK.open_ hd;obtain⟨bd,od,rfl,aQ,cD,Y,ya⟩:=hc r U x;obtain⟨aK,aZ,aq,bh,cE,Z,yb⟩:=hc s V o;obtain⟨rfl,rfl⟩:bd=aK/\od=aZ:=by simpa using aq
 obtain⟨Aa,ca,rfl,-⟩:=fQ.open_ Y;obtain⟨Ab,cb,rfl,-⟩:=fQ.open_ Z;have bB:=fP x;have bG:=fP o;have aS:0<=k/\k<=3:=oG;obtain⟨bH,bI⟩:=aS;obtain⟨HK,ak,ai⟩:=Zc hk (Wq k (r:Int) (s:Int) i j (U.length:Int) (V.length:Int) oG) (V8 k (r:Int) (s:Int) i j (U.length:Int) (V.length:Int) oG);clear hd x o hc aq Y Z hk;go_enter func311,ntmps311;go_wp2_with fail;obtain⟨w1,ag,⟨b1,bm,b4,b5,-⟩,a,-⟩:=sk w [(39,[.slice (pA bd od) d c]),(320,[k,(r:Int),(s:Int),i,j]),(355,gO),(355,gO)];simp only[Hk] at ag;rw[ag];clear ag;have l1:=b1.lt;have lm:=bm.lt;have l4:=b4.lt;have l5:=b5.lt;have e1:=b1.c 0;have m0:=bm.c 0;have m1:=bm.c 1;have m2:=bm.c 2;have m3:=bm.c 3;have m4:=bm.c 4;replace ya:=a7 a lE ya;replace yb:=a7 a lE yb;have bA:=bP aQ a.size;refine rB [19] fun hS=>?_;refine kL [0,1,2,3,4,5,6,7,8,9,10,11,12,13,14,15,16,17] ?_;refine tO 18 fun K D=>?_;go_simp;have af:=hS.alloc hS.size (cB 400 [Zo,Zo,Zo,Zo,Zo,Zo,Zo]);refine D _ _ (af) ?_;refine tL 19 fun K D=>?_;refine gY _ 400 (.tmp 8) (.tmp 64) rfl w1 400 _ _ (fc.fW w1.drew 400 [Zo,Zo,Zo,Zo,Zo,Zo,Zo] (g:=w1.heap.size) rfl) rfl rfl SJ rfl rfl ?_;intro w2 bV ar aU;have E:Below w1 w1 w2:=af.grown ar sI (fun q z=>by cases z;omega);refine D _ _ ?_;refine tD ?_;have l7:=bV.lt;have q0:=(bm.below E lm).c 0;clear m0 m1 m2 m3 m4 e1 ya yb hS af ar aU;go_wp2_with fail;have cw:=bP lm E.size;refine rB [5] fun hS=>?_;refine kL [1,2] ?_
 rcases HK with rfl|rfl|rfl|rfl
 all_goals
  refine u9 0 4 3 (f:=325) (args:= #[]) (v:=.agg #[.func (.func 342) #[] #[],.func (.func 343) #[] #[],.func (.func 344) #[] #[],.func (.func 345) #[] #[],.func (.func 346) #[] #[],.func (.func 347) #[] #[],.func (.func 348) #[] #[],.func (.func 349) #[] #[]]) rfl rfl rfl rfl rfl rfl dE dE dE kR kR kR kR kR 395 [.nilFunc,.nilFunc] hS (fun q h=>by cases h;decide) (fun q h=>by cases h;decide) jF (fun u W=>by go_simp) (fun W=>by go_simp)
   (fun W _=>by have z:=fun H C L M N O P Q=>vl H C L M N O P Q W;go_simp;try with_reducible rfl) (fun p W _=>by have z:=fun H C L M N O P Q=>vl H C L M N O P Q W;go_simp;try with_reducible rfl) (fun W _=>(Bi W).mono fun e w' h=>h) (fun W w' h hb=>h.trans (hb.mono h.size)) (fun a' W=>by go_simp) ?_
  intro g W R ay aR aP;refine pU ?_;clear hS aP;have hS:=R;refine tL 5 fun K D=>?_;refine gY _ 395 (.tmp 9) (.tmp 68) rfl g 395 _ _ (show fc W g 395 [.nilFunc,.nilFunc] from ay) rfl rfl QP rfl rfl ?_;intro w3 bK au aV;have S:Below w2 w2 w3:=R.grown au R.size (fun q z=>by cases z;exact aR);refine D _ _ ?_;refine tD ?_;have b:=bV.below S l7;have v0:=b.c 0;have v1:=b.c 1;have v2:=b.c 2;have v3:=b.c 3;have v4:=b.c 4;have v5:=b.c 5;have v6:=b.c 6;have H:=bK.c 0;have C:=bK.c 1;have lg:=bK.lt;have az:=bP l7 S.size;clear hS R ay au aV q0;go_wp2_with fail;refine(ak _ oG oG).mono ?_;rintro e w4 ⟨ok,rfl,hp,z,F⟩;have l:Below w1 w1 w4:=(E.trans (S.mono E.size)).trans (F.mono (eZ E.size S.size));have aD:=b4.below l l4;have aG:=b5.below l l5;have t:=b.below F az;have aJ:=bK.below F lg;obtain⟨HP,HQ⟩:=Zb hp z;have v0:=t.c 0;have v1:=t.c 1;have v2:=t.c 2;have v3:=t.c 3;have v4:=t.c 4;have v5:=t.c 5;have v6:=t.c 6;have C:=aJ.c 1;clear hp z;cases ok
  ·go_wp2_with (first
    |(refine fH _ rfl 355 (.tmp 4) (.tmp 74) rfl (w+1+1) 355 _ _ aD rfl rfl gZ rfl rfl ?_;intro B aL aw bU)
    |(refine fH _ rfl 355 (.tmp 5) (.tmp 75) rfl (w+1+1+1) 355 _ _ (aG.grown aw sI) rfl rfl gZ rfl rfl ?_;intro w6 aM m ah))
   refine bodyPost_ret (uS rfl _ _ (w+1+1) (w+1+1+1) 355 355 _ _ _ _ _ rfl rfl rfl (aL.grown m sI) aM underlying355 rfl gZ underlying355 rfl gZ) rfl ⟨DT,DT,false,rfl,aA,⟨nF,fun h=>HQ (aj.2 h)⟩,?_⟩;exact qY (n:=0) (a.trans (l.mono a.size)) aw m oG oG
  ·have al:=zH (HP rfl);have cj:=bP lg F.size;have bZ:=bP az F.size;go_wp2_with fail;refine(ai al _ oG oG aT).mono ?_;rintro e B ⟨I,J,rfl,hr,aN⟩;have y:Below w1 w1 B:=l.trans (aN.mono l.size);have aE:=b4.below y l4;have aH:=b5.below y l5;have cg:=y.size;have HR:=zH hr;have n1:=lC I;have n2:=lC J;rw[hr.l1] at n1;rw[hr.l2] at n2;have i1:(prog.info? 355).map (·.size)=some (kJ I).length:=by rw[n1];exact gZ
   have i2:(prog.info? 355).map (·.size)=some (kJ J).length:=by rw[n2];exact gZ
   obtain⟨I1,I2,N1,N2⟩:=Zd i1 i2 n1 n2;have X:=a.trans (y.mono a.size);obtain⟨R1,aa⟩:=nR (kJ I);obtain⟨R2,ae⟩:=nR (kJ J);have a1:=oU I;have a2:=oU J;rw[aa] at I1 N1 a1|-
   rw[ae] at I2 N2 a2|-
   obtain⟨aB,aC,A1,A2⟩:=Zd aa ae a1 a2;clear hr n1 n2 i1 i2 aa ae a1 a2;go_wp2_with (first
    |(refine fH _ rfl 355 (.tmp 10) (.tmp 81) rfl B 355 gO R1 ((fc.fW B 355 gO (g:=B.heap.size) rfl).alloc _) rfl rfl I1 N1.symm A1 ?_;intro w6 b6 m ah)
    |(refine fH _ rfl 355 (.tmp 11) (.tmp 82) rfl (B+1) 355 gO R2 ((fc.fW (B.alloc (cB 355 gO)) 355 gO (g:=B.heap.size+1) sI).grown m sI) rfl rfl I2 N2.symm A2 ?_;intro w7 b7 G aW))
   have ao:=b6.grown G sI;have aF:=(((aE.alloc _).alloc _).grown m sO).grown G sO;have aI:=(((aH.alloc _).alloc _).grown m sO).grown G sO;have aO:Below w w w7:=((((X.alloc X.size _).alloc sO _)).grown m sO (fun q z=>by cases z;omega)).grown G (by rw[ah];simp;omega) (fun q z=>by cases z;omega);clear m ah G aW;refine rG (fun wS=>fc wS B 355 R1/\fc wS (B+1) 355 R2) [3,4] (⟨ao.drew,b7.drew⟩) fun hS=>?_;refine ki 0 (v:=.agg R1.toArray) rfl rfl kR jF (fun wS hSw=>?_) hS ?_
   ·refine nK wS 355 (.tmp 10) ?_ B 355 R1 _ ?_ hSw.1 underlying355 rfl I1
    ·rfl
    ·rfl
   refine pU ?_;refine ki 1 (v:=.agg R2.toArray) rfl rfl kR jF (fun wS hSw=>?_) hS ?_
   ·refine nK wS 355 (.tmp 11) ?_ (B+1) 355 R2 _ ?_ hSw.2 underlying355 rfl I2
    ·rfl
    ·rfl
   refine pU ?_;refine tO 2 fun K D=>?_;refine gY _ 355 (.tmp 4) (.tmp 83) rfl (w+1+1) 355 gO R1 aF.drew rfl rfl I1 N1.symm A1 ?_;intro w8 b8 T bW;refine D _ _ (⟨ao.drew.grown T sO,b7.drew.grown T sO⟩) ?_;refine tL 3 fun K D=>?_;refine gY _ 355 (.tmp 5) (.tmp 84) rfl (w+1+1+1) 355 gO R2 (aI.drew.grown T sI) rfl rfl I2 N2.symm A2 ?_;intro w9 b9 ax bY;refine D _ _ ?_;refine tL 4 fun K D=>?_;go_simp;refine D _ _ ?_;refine tD ?_;go_wp2_with fail;refine bodyPost_ret (uS rfl _ _ (w+1+1) (w+1+1+1) 355 355 _ _ _ _ _ rfl rfl rfl (b8.grown ax sI) b9 underlying355 rfl I1 underlying355 rfl I2) rfl ⟨I,J,true,by rw[aB.out,aC.out];rfl,an I J HR,⟨fun _=>aj.1 al,fun _=>rfl⟩,?_⟩;exact qY (n:=1) aO T ax oG oG
end
end Go.Proofs.YtgimnjldndkalaaGreatDoor
