/- Of the proof of TopGreat: The walks of whether a tour may be, and a day. -/
import Derived.Test.YtgimnjldndkalaaGreatDoorF14
import Derived.Test.YtgimnjldndkalaaGreatDoorF17
import Derived.Test.YtgimnjldndkalaaGreatDoorF18
import Derived.Test.YtgimnjldndkalaaGreatDoorF19
set_option linter.all false
set_option maxHeartbeats 8000000
set_option maxRecDepth 100000
namespace Go.Proofs.YtgimnjldndkalaaGreatDoor
variable {w:World}
section
open Go.Proofs.Tryz
open Go.RowKit jm ko kN
theorem JP (x:fS) (A1:Option Addr) (c1:Nat) (A2:Option Addr) (c2:Nat) (tv:Value) (t:Tr) (w:World) (ht:RL 2 iH w tv t) (hn:t.length≤1000000):
  Calls Tryz.prog 220 #[.agg #[.int .i64 x.days,.int .i64 x.mm,.int .i64 x.cap,.int .i64 x.len,.slice A1 x.eB.length c1,.slice A2 x.gn.length c2,tv]] w fun e w'=> ∃b:Bool,e= .returned (.bool b)∧(t.length≤1→b=true)∧Below w.heap.size w w':=by
 have HT:=jA ht;obtain⟨A,c,rfl,-⟩:=fQ.open_ ht;clear ht;go_enter Tryz.func220,Tryz.ntmps220;go_wp2_with fail;have hbel:=bL (bS w.heap.size w) (.cells #[.int .i64 x.days,.int .i64 x.mm,.int .i64 x.cap,.int .i64 x.len,.slice A1 x.eB.length c1,.slice A2 x.gn.length c2,.slice A t.length c] 253);refine(rD _ t _ (fQ.below HT.out hbel (ij _)) hn).mono ?_;rintro e w2 ⟨lv,rfl,HL,hb2⟩;have hsl:=HL.slice;rw[fm] at hsl;obtain⟨Al,cl,rfl,-⟩:=hsl;have HO:=jA HL;have hle:w.heap.size≤w2.heap.size:=eZ hbel.size hb2.size;clear HL;go_wp2_with fail;refine(zt w.heap.size _ _ _ (HO.out.mono hbel.size) (by simpa using hn) hle).mono ?_;rintro e w3 ⟨b,rfl,h1,hb3⟩;have H1:=jA h1;clear h1;go_wp2_with fail;go_ret;exact⟨_,rfl,fun h=>H1.out (by rw[fm];exact h),(hbel.trans (hb2.mono hbel.size)).trans hb3⟩
abbrev VO:List Value:=[.func (.func 219) #[] #[],.int .i64 1,.func (.func 220) #[] #[],.int .i64 11,.func (.func 221) #[] #[],.int .i64 12,.func (.func 222) #[] #[],.int .i64 13]
theorem Jn (w:World):
  Calls Tryz.prog 180 #[] w fun e w'=>e= .returned (.slice (some ⟨w.heap.size,0,none⟩) 4 4)∧fc w' w.heap.size 251 VO∧Below w.heap.size w w':=by
 go_enter Tryz.func180,Tryz.ntmps180;go_wp2;go_ret;exact⟨rfl,fc.new _ _ _,(bS _ _).alloc (ij _) _⟩
structure GoT (x:fS) (t:Tr):Prop where
 st:GoS x.eB.length t
 ld:me (t.map Prod.snd)≤x.cap
 wy:Mc x.gn (t.map Prod.fst)≤x.len
theorem GoT.len {x:fS} {t:Tr} (h:GoT x t):t.length≤1:=by obtain⟨z,q,rfl,-⟩:=h.st;exact ij _
inductive Tn (x:fS) (t:Tr) (w:World) (e:Ending) (w':World):Prop
 |mk (z:Int) (he:e= .returned (.int .i64 z)) (h:(0≤z∧z≤18)∧(z≠1→VZ x.eB.length t)∧(GoT x t→z=0)) (hb:Below w.heap.size w w')
theorem uu (xv tv:Value) (x:fS) (t:Tr) (w:World) (hx:iz w xv x) (ho:eV x) (ht:RL 2 iH w tv t) (hn:t.length≤1000000):
  Calls Tryz.prog 134 #[xv,.agg #[tv]] w (Tn x t w):=by
 obtain⟨A1,c1,A2,c2,rfl⟩:=hx.agg;have HT:=jA ht;obtain⟨A,c,rfl,-⟩:=fQ.open_ ht;have HX:=jA hx;have HO:=jA ho;clear hx ho ht;go_enter Tryz.func134,Tryz.ntmps134;go_wp2_with fail;refine(Jn _).mono ?_;rintro e w1 ⟨rfl,hR,hb1⟩;have hbel:Below w.heap.size w w1:=(bL (bL (bS w.heap.size w) (.cells #[.int .i64 x.days,.int .i64 x.mm,.int .i64 x.cap,.int .i64 x.len,.slice A1 x.eB.length c1,.slice A2 x.gn.length c2] 25)) (.cells #[.slice A t.length c] 44)).trans (hb1.mono (by simp only[lz];omega));have bx:=((fc.new w 25 [.int .i64 x.days,.int .i64 x.mm,.int .i64 x.cap,.int .i64 x.len,.slice A1 x.eB.length c1,.slice A2 x.gn.length c2]).alloc (.cells #[.slice A t.length c] 44)).below hb1 (by simp;omega);have bt:=(fc.fW (w.alloc (.cells #[.int .i64 x.days,.int .i64 x.mm,.int .i64 x.cap,.int .i64 x.len,.slice A1 x.eB.length c1,.slice A2 x.gn.length c2] 25)) 44 [.slice A t.length c] (g:=w.heap.size+1) (by simp)).below hb1 (by simp);simp only[lz] at hR⊢;clear hb1;go_wp2_with fail;go_loopw [9] (fun iv wr=> ∃i:Nat,i≤4∧iv= .int .i64 i∧Hid (0 <i→VZ x.eB.length t)∧fc wr w.heap.size 25 [.int .i64 x.days,.int .i64 x.mm,.int .i64 x.cap,.int .i64 x.len,.slice A1 x.eB.length c1,.slice A2 x.gn.length c2]∧
  fc wr (w.heap.size+1) 44 [.slice A t.length c]∧fc wr (w.heap.size+1+1) 251 VO∧Below w.heap.size w wr) (fun iv _=>4 - (intOf iv).toNat)
 case atStart=>exact⟨0,eC _,rfl,jA (fun h=>absurd h (by omega)),bx,bt,hR,hbel⟩
 case round=>
  clear hbel bx bt hR;obtain⟨i,hi,rfl,HS,bx,bt,hR,hbel⟩:=hrel;have l1:=bx.lt;have l2:=bt.lt;have l3:=hR.lt;obtain⟨d0,d1,d2,d3,d4,d5⟩:=bx.jI;have e0:=bt.c 0;have hx1:=jA (fun o:Obj=>HX.out.below (bL hbel o) (ij _));have ht1:=jA (fun o:Obj=>fQ.below HT.out (bL hbel o) (ij _));have hi5:i=0∨i=1∨i=2∨i=3∨i=4:=by omega
  rcases hi5 with rfl|rfl|rfl|rfl|rfl
  all_goals
   have r0:=hR.c 0;have r1:=hR.c 1;have r2:=hR.c 2;have r3:=hR.c 3;have r4:=hR.c 4;have r5:=hR.c 5;have r6:=hR.c 6;have r7:=hR.c 7;go_wp2_with fail
  ·refine(GZ x A1 c1 A2 c2 _ t _ (ht1.out _)).mono ?_;rintro e w2 ⟨b,rfl,hSt,hGo,hb2⟩;have HST:=jA hSt;have HGO:=jA hGo;clear hSt hGo;have hb3:=(bL (bS wr.heap.size wr) (.cells #[.func (.func 219) #[] #[],.int .i64 1] 251)).trans (hb2.mono (by simp));have q1:w2.cell? ⟨wr.heap.size,1,none⟩=some (.int .i64 1):=((fc.new wr 251 [.func (.func 219) #[] #[],.int .i64 1]).below hb2 (by simp)).cell 1;have hbe:=hbel.trans (hb3.mono hbel.size);cases b
   ·go_wp2_with fail;go_ret
    exact⟨_,rfl,⟨by omega,fun h=>absurd rfl h,fun g=>by cases HGO.out g.st⟩,hbe⟩
   ·go_wp2_with fail;go_roundw
    case rel=>exact⟨1,by omega,by go_num,jA (fun _=>HST.out trivial),bx.below hb3 l1,bt.below hb3 l2,hR.below hb3 l3,hbe⟩
    case measure=>simp[intOf]
  ·refine(JP x A1 c1 A2 c2 _ t _ (ht1.out _) hn).mono ?_;rintro e w2 ⟨b,rfl,hGo,hb2⟩;have HGO:=jA hGo;clear hGo;have hb3:=(bL (bS wr.heap.size wr) (.cells #[.func (.func 220) #[] #[],.int .i64 11] 251)).trans (hb2.mono (by simp));have q1:w2.cell? ⟨wr.heap.size,1,none⟩=some (.int .i64 11):=((fc.new wr 251 [.func (.func 220) #[] #[],.int .i64 11]).below hb2 (by simp)).cell 1;have hbe:=hbel.trans (hb3.mono hbel.size);cases b
   ·go_wp2_with fail;go_ret
    exact⟨_,rfl,⟨by omega,fun _=>HS.out (by omega),fun g=>by cases HGO.out g.len⟩,hbe⟩
   ·go_wp2_with fail;go_roundw
    case rel=>exact⟨2,by omega,by go_num,jA (fun _=>HS.out (by omega)),bx.below hb3 l1,bt.below hb3 l2,hR.below hb3 l3,hbe⟩
    case measure=>simp[intOf]
  ·refine(GX x A1 c1 A2 c2 _ t _ (ht1.out _)).mono ?_;rintro e w2 ⟨rfl,hb2⟩;obtain⟨b,hb⟩: ∃b,decide (me (t.map Prod.snd)≤x.cap)=b:=⟨_,rfl⟩;rw[hb];have HGO:=jA hb;clear hb;have hb3:=(bL (bS wr.heap.size wr) (.cells #[.func (.func 221) #[] #[],.int .i64 12] 251)).trans (hb2.mono (by simp));have q1:w2.cell? ⟨wr.heap.size,1,none⟩=some (.int .i64 12):=((fc.new wr 251 [.func (.func 221) #[] #[],.int .i64 12]).below hb2 (by simp)).cell 1;have hbe:=hbel.trans (hb3.mono hbel.size);cases b
   ·go_wp2_with fail;go_ret
    exact⟨_,rfl,⟨by omega,fun _=>HS.out (by omega),fun g=>absurd g.ld (of_decide_eq_false HGO.out)⟩,hbe⟩
   ·go_wp2_with fail;go_roundw
    case rel=>exact⟨3,by omega,by go_num,jA (fun _=>HS.out (by omega)),bx.below hb3 l1,bt.below hb3 l2,hR.below hb3 l3,hbe⟩
    case measure=>simp[intOf]
  ·refine(GY x A1 c1 A2 c2 _ t _ (ht1.out _) (hx1.out _) HO.out hn (HS.out (by omega)).1).mono ?_;rintro e w2 ⟨rfl,hb2⟩;obtain⟨b,hb⟩: ∃b,decide (Mc x.gn (t.map Prod.fst)≤x.len)=b:=⟨_,rfl⟩;rw[hb];have HGO:=jA hb;clear hb;have hb3:=(bL (bS wr.heap.size wr) (.cells #[.func (.func 222) #[] #[],.int .i64 13] 251)).trans (hb2.mono (by simp));have q1:w2.cell? ⟨wr.heap.size,1,none⟩=some (.int .i64 13):=((fc.new wr 251 [.func (.func 222) #[] #[],.int .i64 13]).below hb2 (by simp)).cell 1;have hbe:=hbel.trans (hb3.mono hbel.size);cases b
   ·go_wp2_with fail;go_ret
    exact⟨_,rfl,⟨by omega,fun _=>HS.out (by omega),fun g=>absurd g.wy (of_decide_eq_false HGO.out)⟩,hbe⟩
   ·go_wp2_with fail;go_roundw
    case rel=>exact⟨4,by omega,by go_num,jA (fun _=>HS.out (by omega)),bx.below hb3 l1,bt.below hb3 l2,hR.below hb3 l3,hbe⟩
    case measure=>simp[intOf]
  ·go_ret;exact⟨_,rfl,⟨by omega,fun _=>HS.out (by omega),fun _=>rfl⟩,hbel⟩
structure GoD (x:fS) (d:Dy):Prop where
 Ik:d.length≤1
 mm:(d.length:Int)≤x.mm
 tr: ∀t∈d,GoT x t
theorem GoD.flat {x:fS} {d:Dy} (h:GoD x d):d.flatten.length≤1:=by
 rcases d with _|⟨t,_|⟨u,d⟩⟩
 ·simp
 ·simpa using(h.tr t (.head _)).len
 ·have:=h.Ik;simp at this
inductive Tm (x:fS) (d:Dy) (w:World) (e:Ending) (w':World):Prop
 |mk (z:Int) (he:e= .returned (.int .i64 z)) (hi:(0≤z∧z≤18)∧(GoD x d→z=0)) (hb:Below w.heap.size w w')
theorem zY (xv dv:Value) (x:fS) (d:Dy) (K:Nat) (w:World) (hx:iz w xv x) (ho:eV x) (hd:RL 1 jf w dv d) (hk:jS x.eB.length K d) (hK:K≤1000000):
  Calls Tryz.prog 87 #[xv,.agg #[dv]] w (Tm x d w):=by
 obtain⟨A1,c1,A2,c2,rfl⟩:=hx.agg;have HD:=jA hd;obtain⟨A,c,rfl,h1,h2,hc⟩:=iK.open_ hd;have HX:=jA hx;have HC:=jA hc;have HO:=jA ho;have HK:=jA hk;clear hx hd ho hk hc;go_enter Tryz.func87,Tryz.ntmps87;go_wp2_with fail;go_loopw [11] (fun iv wr=> ∃i:Nat,i≤d.length∧iv= .int .i64 i∧
  fc wr w.heap.size 25 [.int .i64 x.days,.int .i64 x.mm,.int .i64 x.cap,.int .i64 x.len,.slice A1 x.eB.length c1,.slice A2 x.gn.length c2]∧fc wr (w.heap.size+1) 39 [.slice A d.length c]∧Below w.heap.size w wr) (fun iv _=>d.length - (intOf iv).toNat)
 case atStart=>exact⟨0,eC _,rfl,(fc.new w _ _).alloc _,fc.fW _ _ _ (by simp),bL (bL (bS _ _) _) _⟩
 case round=>
  obtain⟨i,hi,rfl,hbx,hbd,hbel⟩:=hrel;have hlx:=hbx.lt;have hld:=hbd.lt;obtain⟨d0,d1,d2,d3,d4,d5⟩:=hbx.jI;by_cases hlt:i <d.length
  ·obtain⟨t,hz⟩:=ec hlt;obtain⟨b,o,rfl,hb,tv,htv,y⟩:=HC.out i _ hz;obtain⟨hok,hlen⟩:=HK.out.get hz;obtain⟨A3,c3,rfl,-⟩:=fQ.open_ htv;replace y:=a7 hbel (ij _) y;have HT:=jA htv;have HR:=jA hok;have HM:=jA (a8 hz);clear hz htv hok;go_wp2_with fail;have ha1:=bL (bS wr.heap.size wr) (.cells #[.slice A3 t.length c3] 44);refine(uu _ _ x t _ (HX.out.below (hbel.trans (ha1.mono hbel.size)) (ij _)) HO.out (fQ.below HT.out (hbel.trans (ha1.mono hbel.size)) (ij _)) (by omega)).mono ?_;rintro e w2 ⟨z,rfl,⟨hzi,-,hzg⟩,hb2⟩;have HZG:=jA hzg;clear hzg;have hb3:=ha1.trans (hb2.mono ha1.size);by_cases hz0:z=0
   ·subst hz0;go_wp2_with fail;go_roundw
    case rel=>exact⟨i+1,by omega,by go_num,hbx.below hb3 hlx,hbd.below hb3 hld,hbel.trans (hb3.mono hbel.size)⟩
    case measure=>exact mI
   ·go_wp2_with fail;go_ret
    exact⟨_,rfl,⟨hzi,fun g=>HZG.out (g.tr t HM.out)⟩,hbel.trans (hb3.mono hbel.size)⟩
  ·obtain rfl:i=d.length:=by omega
   have e0:=hbd.c 0;go_wp2_with fail;refine(Bw _ d K _ (iK.below HD.out hbel (ij _)) HK.out.wt hK).mono ?_;rintro e w2 ⟨lv,rfl,HL,hb2⟩;have hfl:=vB d;have HFL:Hid (GoD x d→d.flatten.length≤1):=jA fun g=>g.flat;have hwt:=HK.out.wt;obtain⟨L,hL⟩: ∃L,d.flatten=L:=⟨_,rfl⟩;rw[hL] at HL hfl HFL;have HS:=jA HL.reads;obtain⟨Al,cl,rfl,-⟩:=HL.slice;clear HL hL;go_wp2_with fail;refine(rD _ L _ HS.out (by omega)).mono ?_;rintro e w3 ⟨lv,rfl,HL,hb3⟩;have hs2:=eZ hbel.size hb2.size;have hsl:=HL.slice;rw[fm] at hsl;obtain⟨Am,cm,rfl,-⟩:=hsl;have HO2:=jA HL;have hs3:=eZ hs2 hb3.size;clear HL;go_wp2_with fail;refine(zt w2.heap.size _ _ _ HO2.out (by rw[fm];omega) hb3.size).mono ?_;rintro e w4 ⟨u,rfl,hug,hb4⟩;rw[fm] at hug;have HUG:=jA hug;clear hug;have hb5:Below w.heap.size w w4:=((hbel.trans (hb2.mono hbel.size)).trans (hb3.mono hs2)).trans (hb4.mono hs2);have hl2:=hb2.size;have hbx5:=(((hbx.below hb2 hlx).below hb3 (by omega)).below hb4 (by omega)).c 1;have hbd5:=(((hbd.below hb2 hld).below hb3 (by omega)).below hb4 (by omega)).c 0;cases u
   ·go_wp2_with fail;go_ret
    exact⟨_,rfl,⟨by omega,fun g=>by cases HUG.out (HFL.out g)⟩,hb5⟩
   ·by_cases hv:x.mm <(d.length:Int)
    ·go_wp2_with fail;go_ret
     exact⟨_,rfl,⟨by omega,fun g=>by have:=g.mm;omega⟩,hb5⟩
    ·have hv':(d.length:Int)≤x.mm:=by omega
     go_wp2_with fail;go_ret
     exact⟨_,rfl,⟨by omega,fun _=>rfl⟩,hb5⟩
open Go.RowKit jm ko kN P15
abbrev uo:List Value:=[Zo,Zo,Zo,Zo,(),(),(),(),false,(),Zo,(),()]
def Fq (x:fS) (A1:Option Addr) (c1:Nat) (A2:Option Addr) (c2:Nat) (Ad:Option Addr) (cd:Nat) (d:Dy) (KK:Nat) (w:World) (hx:iz w (.agg (xC x A1 c1 A2 c2).toArray) x) (ho:eV x) (hd:RL 1 jf w (.slice Ad d cd) d)
  (hk:jS x.eB KK d) (dp:KK<=1000000):
  Calls prog 318 #[.agg (xC x A1 c1 A2 c2).toArray,.agg #[.slice Ad d cd]] w (fun e w'=> ∃bI R fv f lv ev,e=.returned (.agg (nD x A1 c1 A2 c2 Ad d cd bI R fv f lv ev).toArray)/\vt w' d bI R fv lv ev/\(∀v∈[bI,fv,lv,ev],∀g,v.ownBlock=some g->w.heap.size<=g/\g<w'.heap.size)/\Below w w w'):=by
 obtain⟨-,-,aN⟩:True/\True/\ ∀i t,d[i]? =some t-> ∃b o tv,Ad=some ⟨b,o,none⟩/\b<w.heap.size/\RL 2 iH w tv t/\w.cell? (pA b (o+i))=some tv:=by obtain⟨dV,dW,hv,h1,h2,aN⟩:=iK.open_ hd;cases hv;exact⟨trivial,trivial,fun i t ht=>by obtain⟨b,o,h1,h2,tv,h3,h4⟩:=aN i t ht;exact⟨b,o,tv,h1,h2,h3,h4⟩⟩
 obtain⟨HX,HO,HD,HC,HK⟩:=Ze hx ho hd aN hk;have dw:=vB d;have en:=hk.wt;have aT:=zH (fun(W:World) (hb:Below w w W)=>Bw _ d KK W (iK.below hd hb lE) hk.wt dp);obtain⟨L,hL⟩:=nR d.flatten;rw[hL] at aT dw;have aC:=zH (fun(W:World) (lv:Value) (h:RL 2 iH W lv L)=>vi lv L W h oG);obtain⟨H,aJ⟩:=nR (qU (L.map Prod.fst));have aX:Hid (qU (oN d)=H):=zH (by rw[<-aJ,<-hL];rfl);have dB:H.length<=1000000:=by rw[<-aJ,oq,fm];omega
 rw[aJ] at aC;clear hx ho hd aN hk hL aJ;go_enter func318,ntmps318;go_upto_region 1 with fail
 obtain⟨w1,bB,⟨bx,bd,b4,-⟩,m,-⟩:=sk w [(25,xC x A1 c1 A2 c2),(39,[.slice Ad d cd]),(375,uo)];simp only[Hk] at bB;rw[bB];clear bB
 go_cut [5] from 9 to 15 (fun p wc=> ∃g G J,p=.pointer (pB g)/\w1.heap.size<=g/\fc wc g 375 (nD x A1 c1 A2 c2 Ad d cd (.slice G H J) false () 0 () ())/\Hid (OI w1 wc (.slice G H J) H)/\Below w1 w1 wc)
 case first=>
  have lx:=bx.lt;have ld:=bd.lt;obtain⟨d0,d1,d2,d3,d4,d5⟩:=bx.jI;have e0:=bd.c 0;refine rB [7] fun hS=>?_;refine kL [0,1,2] ?_;refine pU ?_;refine mL 3 6 rfl rfl rfl rfl kR (fun K j=>?_) (fun K j=>?_)
  ·go_simp;refine(aT _ (m.trans (hS.mono m.size))).mono ?_;rintro e wa ⟨sv,rfl,HS,aM⟩;have hS:=hS.trans (aM.mono hS.size);obtain⟨As,cs,rfl,-⟩:=HS.slice;have aD:=zH HS.reads;clear HS;refine j _ _ (hS) ?_;refine pU ?_;refine mL 4 6 rfl rfl rfl rfl kR (fun K j=>?_) (fun K j=>?_)
   ·go_simp;refine(aC _ _ (aD)).mono ?_;rintro e wb ⟨ov,rfl,B,aa⟩;have C:=zH (OI.mono B hS.size);have hS:=hS.trans (aa.mono hS.size);obtain⟨G,J,rfl,-⟩:=B.slice;clear B;refine j _ _ (hS) ?_;refine kL [5] ?_;refine tO 6 fun K j=>?_;go_simp;have h6:=hS.alloc hS.size (cB 375 uo);refine j _ _ (h6) ?_;refine tL 7 fun K j=>?_;refine gY _ 375 (.tmp 5) (.tmp 14) rfl wb 375 uo (nD x A1 c1 A2 c2 Ad d cd (.slice G H J) false () 0 () ()) (fc.new wb _ uo) rfl rfl uq rfl rfl ?_;intro w9 b9 A bH;refine j _ _ ?_;refine tD ?_;go_wp2_with fail;go_meet;exact⟨_,G,J,rfl,hS.size,b9,(oT (C.alloc _) (fc.new wb _ uo) dE A),(h6.grown A h6.size (fun q hq=>by cases hq;exact hS.size))⟩
   ·go_simp;have h6:=hS.alloc hS.size (cB 375 uo);have hw:=hS.size;have b6:=fc.new wa 375 uo;refine j _ _ (h6) ?_;have hS:=h6;refine tO 4 fun K j=>?_;go_simp;refine(aC _ _ (fQ.below aD (bL bF _) lE)).mono ?_;rintro e wb ⟨ov,rfl,B,aa⟩;have C:=zH (OI.mono B hS.size);have hS:=hS.trans (aa.mono hS.size);obtain⟨G,J,rfl,-⟩:=B.slice;clear B;refine j _ _ (hS) ?_;replace b6:=b6.below aa sI;refine kL [5] ?_;refine tL 7 fun K j=>?_;refine gY _ 375 (.tmp 5) (.tmp 14) rfl wa 375 uo (nD x A1 c1 A2 c2 Ad d cd (.slice G H J) false () 0 () ()) (b6) rfl rfl uq rfl rfl ?_;intro w9 b9 A bH;refine j _ _ ?_;refine tD ?_;go_wp2_with fail;go_meet;exact⟨_,G,J,rfl,hw,b9,(oT C b6 dE A),(hS.grown A hS.size (fun q hq=>by cases hq;exact hw))⟩
  ·go_simp;have h6:=hS.alloc hS.size (cB 375 uo);have hw:=hS.size;have b6:=fc.new w1.drew 375 uo;refine j _ _ (h6) ?_;have hS:=h6;refine tO 3 fun K j=>?_;go_simp;refine(aT _ (m.trans (hS.mono m.size))).mono ?_;rintro e wa ⟨sv,rfl,HS,aM⟩;have hS:=hS.trans (aM.mono hS.size);obtain⟨As,cs,rfl,-⟩:=HS.slice;have aD:=zH HS.reads;clear HS;refine j _ _ (hS) ?_;replace b6:=b6.below aM sI;refine tO 4 fun K j=>?_;go_simp;refine(aC _ _ (aD)).mono ?_;rintro e wb ⟨ov,rfl,B,aa⟩;have C:=zH (OI.mono B hS.size);have hS:=hS.trans (aa.mono hS.size);obtain⟨G,J,rfl,-⟩:=B.slice;clear B;refine j _ _ (hS) ?_;replace b6:=b6.below aa b6.lt;refine kL [5] ?_;refine tL 7 fun K j=>?_;refine gY _ 375 (.tmp 5) (.tmp 14) rfl w1 375 uo (nD x A1 c1 A2 c2 Ad d cd (.slice G H J) false () 0 () ()) (b6) rfl rfl uq rfl rfl ?_;intro w9 b9 A bH;refine j _ _ ?_;refine tD ?_;go_wp2_with fail;go_meet;exact⟨_,G,J,rfl,lE,b9,(oT C b6 dE A),(hS.grown A hS.size (fun q hq=>by cases hq;exact lE))⟩
 case rest=>
  obtain⟨g,G,J,rfl,hg,s,C,aZ⟩:=hcut;have lx:=bx.lt;have ld:=bd.lt;have c7:=s.c 7;go_wp2_with fail;refine(yJ _ H _ C.reads dB).mono ?_;rintro e w2 ⟨R,rfl,cO,-,aL⟩;have cV:=zH cO;have ar:=aZ.trans (aL.mono aZ.size);replace s:=s.below aL s.lt;replace C:=zH (C.below aL lE);have cA:=bx.below ar lx;have cj:=bd.below ar ld;have bZ:=b4.below ar b4.lt;have cQ:=s.lt;have f8:=s.frozen 8;have c8:=s.c 8;clear cO aL aZ c7;have dY:=ar.size;go_upto_region 3 with fail
  have aF:fc (w2.setCell (pA g 8) R) g 375 (nD x A1 c1 A2 c2 Ad d cd (.slice G H J) R () 0 () ()):=s.gH 8 R;have aj:=C.vo s dE (q:=(pA g 8)) rfl R;have aG:=cA.kj (p:=pA g 8) dO R;have ax:=cj.kj (p:=pA g 8) dO R;have aE:=bZ.kj (p:=pA g 8) (by show w.heap.size+1+1≠g;have:=b4.lt;omega) R;have ai:Below w1 w1 (w2.setCell (pA g 8) R):=ar.setCell (p:=pA g 8) hg _;revert aF aj aG ax aE ai;generalize w2.setCell (pA g 8) R=w3;intro aF aj aG ax aE ai;have aO:=zH aj;clear aj s cA cj bZ ar C f8 c8 bx bd;have dZ:=b4.lt;have e3:=ax.c 0;go_wp2_with fail;clear e3;go_loopw [22] (fun iv wr=> ∃(i:Nat) (f:Int) (fv lv ev:Value) (F M E:List Int),i<=d/\iv=.int .i64 i/\fc wr w 25 (xC x A1 c1 A2 c2)/\fc wr (w+1) 39 [.slice Ad d cd]/\fc wr (w+1+1) 375 uo/\
   fc wr g 375 (nD x A1 c1 A2 c2 Ad d cd (.slice G H J) R fv f lv ev)/\Hid (OE w1 wr fv F)/\F.length=i/\Hid (xA w1 wr (.slice G H J) lv ev H M E)/\M.length=i/\E.length=i/\Below w1 w1 wr) (fun iv _=>d.length-(intOf iv).toNat)
  case atStart=>exact⟨0,0,_,_,_,[],[],[],eC _,rfl,aG,ax,aE,aF,(OE.jL _ _),rfl,zH ⟨aO,OI.jL _ _,OI.jL _ _,(FK.nil _).symm,(FK.nil _).symm,FK.nil _⟩,rfl,rfl,ai⟩
  case round=>
   clear aF aG ax aE ai aO;obtain⟨i,f,fv,lv,ev,F,M,E,hi,rfl,bx,bd,D,s,HF,hF,c,hM,hE,bh⟩:=hrel;have cQ:=s.lt;have ey:=bx.lt;have eu:=bd.lt;have n:=m.trans (bh.mono m.size);have dC:=bh.size;by_cases dz:i<d
   ·obtain⟨t,hz⟩:=ec dz;obtain⟨bt,ot,tv,rfl,du,bA,y⟩:=HC i _ hz;obtain⟨cM,ek⟩:=HK.get hz;obtain⟨At,ct,rfl,-⟩:=fQ.open_ bA;obtain⟨HT,HR⟩:=Zb bA cM;replace y:=a7 n lE y;have dS:=bP du n.size;obtain⟨d0,d1,d2,d3,d4,d5⟩:=bx.jI;clear hz bA cM;go_wp2_with fail;have aK:=bL (bS wr wr) (cB 44 [.slice At t ct]);refine(uu _ _ x t _ (HX.below (n.trans (aK.mono n.size)) lE) HO (fQ.below HT (n.trans (aK.mono n.size)) lE) oG).mono ?_;rintro e w4 ⟨z,rfl,-,aR⟩;have V:=aK.trans (aR.mono aK.size);have ao:=(fc.new wr 44 [.slice At t ct]).below aR sI;replace bx:=bx.below V oG;replace bd:=bd.below V oG;replace D:=D.below V oG;replace s:=s.below V cQ;replace HF:=zH (HF.below V lE);replace c:=zH (c.below V lE);have Y:=bh.trans (V.mono dC);have ej:=V.size;have ew:=ao.lt;have ee:=HK.len;have dn:F.length<=1000000000:=oG;have dr:M.length<=1000000000:=oG;have dj:E.length<=1000000000:=oG;obtain⟨aV,aW,aU⟩:=Zc hF hM hE;have c10:=s.c 10;have cD:=s.frozen 10;have eo:=s.lt;clear hF hM hE;by_cases dF:z=0
    case' pos=>
     subst dF;go_upto_region 9 with fail
     obtain⟨w5,dD⟩:=nE (w4:World);subst dD
    case' neg=>
     go_upto_region 9 with fail
     have cZ:fc (w4.setCell (pA g 10) (wrap64 (f+1))) g 375 (nD x A1 c1 A2 c2 (pA bt ot) d cd (.slice G H J) R fv (wrap64 (f+1)) lv ev):=s.gH 10 _;have aH:=HF.vo s dE (q:=(pA g 10)) rfl (wrap64 (f+1));have al:=c.vo s dE (q:=(pA g 10)) rfl (wrap64 (f+1));have dh:=bx.kj (p:=pA g 10) dO (wrap64 (f+1));have cY:=bd.kj (p:=pA g 10) dO (wrap64 (f+1));have cX:=D.kj (p:=pA g 10) dO (wrap64 (f+1));have dg:=ao.kj (p:=pA g 10) dO (wrap64 (f+1));have dt:Below w1 w1 (w4.setCell (pA g 10) (wrap64 (f+1))):=Y.setCell (p:=pA g 10) hg _;revert cZ aH al dh cY cX dg dt;generalize w4.setCell (pA g 10) (wrap64 (f+1))=w5;clear s bx bd D ao Y;generalize wrap64 (f+1)=f;intro s aH al bx bd D ao Y;replace HF:=zH aH;replace c:=zH al;clear aH al
    all_goals
     have c9:=s.c 9;have dI:=s.lt;have dM:=bx.lt;obtain⟨Af,cf,rfl,-⟩:=HF.slice;have cE:=Y.size;go_wp2_with (at_builtin;refine Tp _ rfl (.tmp 36) (.tmp 38) rfl w1 _ F HF rfl _ rfl rfl dn cE ?_;intro gF k w6 cL ef dx Z dG;have q6:=Z.ig s dE;have f6:=q6.frozen 9;have c6:w6.cell? (pA g 9)=some (.slice Af F cf):=q6.cell 9);have an:fc (w6.setCell (pA g 9) (.slice gF (F+1) k)) g 375 (nD x A1 c1 A2 c2 (pA bt ot) d cd (.slice G H J) R (.slice gF (F+1) k) f lv ev):=q6.gH 9 _;have aI:=cL.vo q6 dE (q:=(pA g 9)) rfl (.slice gF (F+1) k);have P:=(c.keep Z dE).vo q6 dE (q:=(pA g 9)) rfl (.slice gF (F+1) k);have az:=(Z.ig bx dE).kj (p:=pA g 9) dO (.slice gF (F+1) k);have ay:=(Z.ig bd dE).kj (p:=pA g 9) dO (.slice gF (F+1) k);have aw:=(Z.ig D dE).kj (p:=pA g 9) dO (.slice gF (F+1) k);have aq:=(Z.ig ao dE).kj (p:=pA g 9) dO (.slice gF (F+1) k);have aA:Below w1 w1 (w6.setCell (pA g 9) (.slice gF (F+1) k)):=(Y.trans (Z.below cE)).setCell (p:=pA g 9) hg _;revert an aI P az ay aw aq aA;generalize w6.setCell (pA g 9) (.slice gF (F+1) k)=w7;intro an aI P az ay aw aq aA;obtain⟨bW,aY⟩:=Zb aI P;obtain⟨Am,cm,rfl,-⟩:=P.hb.slice;obtain⟨Ae,ce,rfl,-⟩:=P.hl.slice;clear aI P q6 f6 c6 cL Z dG dx s bx bd D ao HF c c9 dI dM;have dK:=an.lt;have dN:=az.lt;have dJ:=ay.lt;have dH:=aw.lt;have dL:=aq.lt;have bG:=m.trans (aA.mono m.size);have dA:=aA.size;have c11:=an.c 11;have t0:=aq.c 0;refine rB [5,6,7] fun hS=>?_;refine kL [0,1,2] ?_;refine tO 3 fun K j=>?_;go_simp;refine(C4 _ t _ (fQ.below HT (bG.trans (hS.mono bG.size)) lE)).mono ?_;rintro e w8 ⟨zl,rfl,-,cI⟩;have U:=hS.trans (cI.mono hS.size);refine j _ _ (U) ?_;refine tO 4 fun K j=>?_;go_simp;have bz:=fc.new w8 3 [zl];have a:=U.alloc U.size (cB 3 [Value.int .i64 zl]);refine j _ _ (a) ?_;have aQ:=a.size;refine tL 5 fun K j=>?_;refine qj _ (.tmp 42) (.tmp 45) rfl w1 _ M (aY.hb.below a lE) rfl zl rfl bz dr oG ?_;intro gM r bO aS O cJ u;have au:=u.ig (an.below a dK) dE;have cD:=au.frozen 11;have cC:=au.c 11;refine j _ _ ?_;refine tL 6 fun K j=>?_;go_simp;refine j _ _ ?_;refine tL 7 fun K j=>?_;go_simp;refine j _ _ ?_;refine tD ?_;go_upto_region 11 with fail
     have T9:=aY.below a lE;have o1:=O _ H T9.hf T9.d1;have o2:=O _ E T9.hl T9.d3.symm;have Q:=(xA.mk o1.1 aS o2.1 o1.2 T9.d2 o2.2.symm).vo au dE (q:=(pA g 11)) rfl (.slice gM (M+1) r);have ah:=((bW.below a lE).keep u dE).vo au dE (q:=(pA g 11)) rfl (.slice gM (M+1) r);have S:fc (bO.setCell (pA g 11) (.slice gM (M+1) r)) g 375 (nD x A1 c1 A2 c2 (pA bt ot) d cd (.slice G H J) R (.slice gF (F+1) k) f (.slice gM (M+1) r) (.slice Ae E ce)):=au.gH 11 _;have T:=(u.ig (az.below a dN) dE).kj (p:=pA g 11) dO (.slice gM (M+1) r);have af:=(u.ig (ay.below a dJ) dE).kj (p:=pA g 11) dO (.slice gM (M+1) r);have ae:=(u.ig (aw.below a dH) dE).kj (p:=pA g 11) dO (.slice gM (M+1) r);have ag:=(u.ig (aq.below a dL) dE).kj (p:=pA g 11) dO (.slice gM (M+1) r);have X:Below w1 w1 (bO.setCell (pA g 11) (.slice gM (M+1) r)):=((aA.trans (a.mono dA)).trans (u.below oG)).setCell (p:=pA g 11) hg _;revert S ah Q T af ae ag X;generalize bO.setCell (pA g 11) (.slice gM (M+1) r)=eA;intro Q ah S T af ae ag X;clear T9 o1 o2 au cD cC O aS cJ u bz a U cI an az ay aw aq bW aY aQ hS c11 t0 bG;obtain⟨bU,aP⟩:=Zb ah Q;clear ah Q;have cT:=S.lt;have cU:=T.lt;have cR:=af.lt;have cP:=ae.lt;have dU:=ag.lt;have ak:=m.trans (X.mono m.size);have cN:=X.size;have c12:=S.c 12;have ez:=ag.c 0;obtain⟨d0,d1,d2,d3,d4,d5⟩:=T.jI;refine rB [6,7,8] fun hS=>?_;refine kL [0,1,2,3] ?_;refine tO 4 fun K j=>?_;go_simp;refine(qE _ _ x t _ (HX.below (ak.trans (hS.mono ak.size)) lE) HO (fQ.below HT (ak.trans (hS.mono ak.size)) lE) oG HR).mono ?_;rintro e dP ⟨rfl,cG⟩;generalize Mc x.gn (t.map Prod.fst)=zl;have U:=hS.trans (cG.mono hS.size);refine j _ _ (U) ?_;refine tO 5 fun K j=>?_;go_simp;have bz:=fc.new dP 3 [zl];have a:=U.alloc U.size (cB 3 [Value.int .i64 zl]);refine j _ _ (a) ?_;have aQ:=a.size;refine tL 6 fun K j=>?_;refine qj _ (.tmp 49) (.tmp 53) rfl w1 _ E (aP.hl.below a lE) rfl zl rfl bz dj oG ?_;intro gE I dQ cK O cJ N;have aB:=N.ig (S.below a cT) dE;have dX:=aB.frozen 12;have dR:=aB.c 12;refine j _ _ ?_;refine tL 7 fun K j=>?_;go_simp;refine j _ _ ?_;refine tL 8 fun K j=>?_;go_simp;refine j _ _ ?_;refine tD ?_;have T9:=aP.below a lE;have o1:=O _ H T9.hf T9.d2;have o2:=O _ (M++_) T9.hb T9.d3;obtain⟨bJ,cF⟩:=Zb ((xA.mk o1.1 o2.1 cK T9.d1 o1.2 o2.2).vo aB dE (q:=(pA g 12)) rfl (.slice gE (E+1) I)) (((bU.below a lE).keep N dE).vo aB dE (q:=(pA g 12)) rfl (.slice gE (E+1) I));have cH:Below w1 w1 (dQ.setCell (pA g 12) (.slice gE (E+1) I)):=((X.trans (a.mono cN)).trans (N.below oG)).setCell (p:=pA g 12) hg _;have cw:=(N.ig (T.below a cU) dE).kj (p:=pA g 12) dO (.slice gE (E+1) I);have cg:=(N.ig (af.below a cR) dE).kj (p:=pA g 12) dO (.slice gE (E+1) I);have bY:=(N.ig (ae.below a cP) dE).kj (p:=pA g 12) dO (.slice gE (E+1) I);go_wp2_with fail;go_roundw
     case rel=>exact⟨i+1,f,_,_,_,_,_,_,oG,by go_num,cw,cg,bY,aB.gH 12 _,cF,by simp[aV.out],bJ,by simp[aW.out],by simp[aU.out],cH⟩
     case measure=>exact mI
   ·obtain rfl:i=d.length:=oG;obtain⟨aV,aW,aU⟩:=Zc hF hM hE;obtain⟨Af,cf,rfl,-⟩:=HF.slice;obtain⟨Am,cm,rfl,-⟩:=c.hb.slice;obtain⟨Ae,ce,rfl,-⟩:=c.hl.slice;clear hF hM hE;have l4:=D.lt;go_wp2_with (first
     |(refine mJ _ rfl 375 (.tmp 5) rfl g 375 _ _ rfl s underlying375 rfl uq ?_)
     |(refine fH _ rfl 375 (.tmp 4) (.tmp 57) rfl (w+1+1) 375 uo (nD x A1 c1 A2 c2 Ad d cd (.slice G H J) R (.slice Af F cf) f (.slice Am M cm) (.slice Ae E ce)) D rfl rfl uq rfl rfl ?_;intro w9 b9 A bH))
    have k1: ∀{v:Value} {l:List Int},OI w1 wr v l->OI w1 w9 v l:=fun h=>oT h D dE A;have k2:OE w1 w9 (.slice Af F cf) F:=oT HF D dE A;refine bodyPost_ret (v:=.agg (nD x A1 c1 A2 c2 Ad d cd (.slice G H J) R (.slice Af F cf) f (.slice Am M cm) (.slice Ae E ce)).toArray) (ia rfl _ _ (w+1+1) 375 _ _ rfl b9 underlying375 rfl uq) rfl ⟨_,_,_,_,_,_,rfl,?_,?_,n.grown A n.size (fun q hq=>by cases hq;omega)⟩
    ·have hn:R=false->(oN d).Nodup:=fun e=>by have h1:=IV (by rw[<-aX.out];exact uU _) (cV e);rw[<-aX.out] at h1;exact(yi _).nodup_iff.1 h1
     exact⟨hn,by rw[aX.out];exact(k1 c.hf).reads,⟨F,k2.reads,aV⟩,⟨M,(k1 c.hb).reads,aW⟩,⟨E,(k1 c.hl).reads,aU⟩⟩
    ·have eh:=m.size;intro v hv b hb;have q:w1.heap.size<=b/\b<w9.heap.size:=by
      simp only[fC,iy,or_false] at hv
      rcases hv with rfl|rfl|rfl|rfl
      ·exact iB (k1 c.hf) b hb
      ·exact k2.lt b hb
      ·exact iB (k1 c.hb) b hb
      ·exact iB (k1 c.hl) b hb
     omega
end
section
open Go.Proofs.Tryz
open Go.RowKit Go.Shelf jm ko kN P15
theorem acz{p:Prop}(h:p:=by
 intro wS hSw
 (try dsimp only at hSw)
 obtain⟨hSc,hSf⟩:=xi hSw;go_simp;try with_reducible rfl):p:=h
theorem Rn{p:Prop}(h:p:=by
 refine wpIn_wide.2 ?_
 go_quiet (fail)
 gi_wp2;go_ret;obtain⟨h1,h2,h3⟩:=HJ1.out _ (below_drewN hbel _) (by show _<=w1.heap.size;omega);exact⟨rfl,s,O1,h1,(fun b hb=>by rw[HO1.out];exact .inl hb),by omega,h2,h3⟩):p:=h
attribute [local go_sem] iO
theorem JV (n0 kb sb:Nat) (w0:World) (x:fS) (A1:Option Addr) (c1:Nat) (A2:Option Addr) (c2:Nat) (Ad:Option Addr) (cd:Nat) (d:Dy) (onv:Value) (tw:Bool) (fv:Value) (bad:Int) (lv ev:Value) (z q:Int) (KK:Nat)
  (hx:iz w0 (.agg (xC x A1 c1 A2 c2).toArray) x) (ho:eV x) (hd:RL 1 jf w0 (.slice Ad d.length cd) d) (hk:jS x.eB.length KK d) (hKK:KK<=1000000) (hn0:n0=w0.heap.size)
  (hs:xd x.eB.length (z,q)) (hnd:(oN d).Nodup) (hnin:z∉oN d)
  (n l:Nat) (hn:1<=n) (J:Jt) (hJ:Ms J) (hY:Kg prog l n0 (Sd x.eB.length d (z,q)) J) (s:Nat) (O:Nat->Prop) (W:World) (hSt:mi n0 kb sb w0 x A1 c1 A2 c2 Ad cd d onv tw fv bad lv ev z q O W) (h0:J s O W)
  (k:Nat) (t:Tr) (hkt:d[k]? =some t) (hsk:s+t.length<=yw d):
  CallsIn Fence.wide n prog 339 #[.agg (nD x A1 c1 A2 c2 Ad d.length cd onv tw fv bad lv ev).toArray,.int .i64 (k:Int),.agg #[.int .i64 z,.int .i64 q],.func (.yield l) #[] #[]] W
   fun e W'=>e=.returned (.bool true)/\ ∃s' O',J s' O' W'/\(∀b,O b->O' b)/\s'<=s+(t.length+1)/\mi n0 kb sb w0 x A1 c1 A2 c2 Ad cd d onv tw fv bad lv ev z q O' W'/\ ∀b,O b->W'.heap[b]? =W.heap[b]? :=by
 obtain⟨F,hF,hFl⟩:=hSt.r.f;obtain⟨M,hM,hMl⟩:=hSt.r.l;obtain⟨E,hE,hEl⟩:=hSt.r.e;have hkl:=fP hkt;have hkF:k<F.length:=by omega
 have hkM:k<M.length:=by omega
 have hkE:k<E.length:=by omega
 obtain⟨Af,cf,rfl,hf1,hf2,hfc⟩:=gx.open_ hF;obtain⟨f,hfk⟩:=ec (l:=F) (i:=k) (by omega);obtain⟨bf,of,rfl,hbf,yf⟩:=hfc k f hfk;obtain⟨Am,cm,rfl,hm1,hm2,hmc⟩:=gx.open_ hM;obtain⟨ml,hmk⟩:=ec (l:=M) (i:=k) (by omega);obtain⟨bm,om,rfl,hbm,ym⟩:=hmc k ml hmk;obtain⟨Ae,ce,rfl,he1,he2,hec⟩:=gx.open_ hE;obtain⟨el,hek⟩:=ec (l:=E) (i:=k) (by omega);obtain⟨be,oe,rfl,hbe,ye⟩:=hec k el hek;obtain⟨Ad',cd',hv,hd1,hd2,hdc⟩:=iK.open_ hd;cases hv;obtain⟨bt,ot,rfl,hbt,tv,htv,yt⟩:=hdc k t hkt;obtain⟨At,ct,rfl,ht1,ht2,hct⟩:=fQ.open_ htv;have HCT:=jA hct;have HSt:=jA hSt;have hW0:=hSt.bl.size;have hWn:n0<=W.heap.size:=by omega
 have HB0:=jA hSt.bl;have yt0:=a7 hSt.bl (by omega) yt;have hbt0:=bP hbt hW0;obtain⟨O1,hO1⟩: ∃O1:Nat->Prop,O1=fun b=>O b\/W.heap.size<=b/\b<W.heap.size+2:=⟨_,rfl⟩;have HO1:=jA hO1;have HJ:=jA hJ;have HY:=jA hY;have hlO:=hSt.lt;have HJ1:Hid (∀W',Below W.heap.size W W'->W.heap.size+2<=W'.heap.size->J s O1 W'/\mi n0 kb sb w0 x A1 c1 A2 c2 (some ⟨bt,ot,none⟩) cd d onv tw (.slice (some ⟨bf,of,none⟩) F.length cf) bad (.slice (some ⟨bm,om,none⟩) M.length cm) (.slice (some ⟨be,oe,none⟩) E.length ce) z q O1 W'/\ ∀b,O b->W'.heap[b]? =W.heap[b]?):=
  jA (fun W' hb h2=>by
   subst hO1;refine⟨hJ s O _ W W' h0 (gI.ke hb) (fun b hb'=> ?_),((hSt.below hb hWn).more (fun b h=>.inl h) (fun b hb'=> ?_)),fun b hb'=>hb.block b (hlO b hb')⟩
   ·rcases hb' with h|h
    ·exact⟨.inl h,by have:=hlO b h;have:=hb.size;omega⟩
    ·exact⟨.inr h.1,by omega⟩
   ·rcases hb' with h|h
    ·have:=hlO b h;have:=hb.size;omega
    ·omega)
 have hz0:=hs.1;have HS:=jA hs;have HND:=jA hnd;have HNIN:=jA hnin;have HX:=jA hx;have HFL:=jA hFl;have HML:=jA hMl;have HEL:=jA hEl;have HKT:=jA hkt;have htl:=(hk.get hkt).2;have HN0:=jA hn0;have hx6:=ho.head;have hzw:wrap64 (z+1)=z+1:=qO _ (by omega);clear hx ho hd hk hs hnd hnin hJ hY hSt hF hM hE hfc hmc hec hdc hkt hfk hmk hek htv hct hO1 hFl hMl hEl h0 yt hlO hn0 hW0 hx6;refine callsIn_of_wp func339 rfl trivial ?_ rfl;simp only[ntmps339,gU,ff,fZ,Nat.reduceAdd,Nat.reduceSub,iq,ir,iX,iA,gQ,fY];have b4:=(fc.new W 375 (nD x A1 c1 A2 c2 (some ⟨bt,ot,none⟩) d.length cd onv tw (.slice (some ⟨bf,of,none⟩) F.length cf) bad (.slice (some ⟨bm,om,none⟩) M.length cm) (.slice (some ⟨be,oe,none⟩) E.length ce))).alloc (.cells #[.int .i64 z,.int .i64 q] 84);have b6:=fc.fW (W.alloc (.cells (nD x A1 c1 A2 c2 (some ⟨bt,ot,none⟩) d.length cd onv tw (.slice (some ⟨bf,of,none⟩) F.length cf) bad (.slice (some ⟨bm,om,none⟩) M.length cm) (.slice (some ⟨be,oe,none⟩) E.length ce)).toArray 375)) 84 [.int .i64 z,.int .i64 q] (g:=W.heap.size+1) (by simp);have hbel:=bL (bL (bS W.heap.size W) (.cells (nD x A1 c1 A2 c2 (some ⟨bt,ot,none⟩) d.length cd onv tw (.slice (some ⟨bf,of,none⟩) F.length cf) bad (.slice (some ⟨bm,om,none⟩) M.length cm) (.slice (some ⟨be,oe,none⟩) E.length ce)).toArray 375)) (.cells #[.int .i64 z,.int .i64 q] 84)
 gi_upto_if 23 with fail
 revert b4 b6 hbel;generalize (W.alloc (.cells (nD x A1 c1 A2 c2 (some ⟨bt,ot,none⟩) d.length cd onv tw (.slice (some ⟨bf,of,none⟩) F.length cf) bad (.slice (some ⟨bm,om,none⟩) M.length cm) (.slice (some ⟨be,oe,none⟩) E.length ce)).toArray 375)).alloc (.cells #[.int .i64 z,.int .i64 q] 84)=w1;intro b4 b6 hbel
 gi_cut [9] from 16 (fun s9 wc=> ∃oth,s9=.int .i64 oth/\w1=wc)
 case first=>
  by_cases hf13:f=13;all_goals
   try subst hf13
   gi_wp2_with fail;gi_meet
   exact⟨_,rfl,rfl⟩
 case rest=>
  obtain⟨oth,rfl,rfl⟩:=hcut
  gi_upto_region 4 with fail
  have l4:=b4.lt;have l6:=b6.lt;have HH:=jA (HJ1.out w1 hbel (by omega));have k0:=b4.c 6;have k2:=b4.c 2;have k3:=b4.c 3;have k11:=b4.c 11;have k12:=b4.c 12;have s0:=b6.c 0;have s1:=b6.c 1;have ym1:=a7 hbel (by omega) ym;have yt1:=a7 hbel (by omega) yt0;have hw1:=hbel.size;by_cases g1:0<oth
  ·exact Rn
  ·have g1':oth<=0:=by omega
   by_cases g2:x.cap<wrap64 (ml+q)
   ·exact Rn
   ·refine wpIn_wide.2 ?_
    go_quiet (fail)
    gi_wp2;refine wpIn_wide.2 ?_
    go_quiet (fail)
    gi_wp2;gi_loopw [55] (fun iv wr=> ∃(i s1:Nat),i<=t.length+1/\iv=.int .i64 i/\Hid (J s1 O1 wr)/\s1<=s+i/\Hid (mi n0 kb sb w0 x A1 c1 A2 c2 (some ⟨bt,ot,none⟩) cd d onv tw (.slice (some ⟨bf,of,none⟩) F.length cf) bad (.slice (some ⟨bm,om,none⟩) M.length cm) (.slice (some ⟨be,oe,none⟩) E.length ce) z q O1 wr)/\
     fc wr W.heap.size 375 (nD x A1 c1 A2 c2 (some ⟨bt,ot,none⟩) d.length cd onv tw (.slice (some ⟨bf,of,none⟩) F.length cf) bad (.slice (some ⟨bm,om,none⟩) M.length cm) (.slice (some ⟨be,oe,none⟩) E.length ce))/\fc wr (W.heap.size+1) 84 [.int .i64 z,.int .i64 q]/\
     Hid (∀b,O b->wr.heap[b]? =W.heap[b]?)) (fun iv _=>t.length+1-(intOf iv).toNat)
    case atStart=>obtain⟨h1,h2,h3⟩:=HJ1.out _ (below_drewN hbel _) (by show _<=w1.heap.size;omega);exact⟨0,s,by omega,rfl,jA h1,by omega,jA h2,b4,b6,jA h3⟩
    case round=>
     clear b4 b6 hbel k0 k2 k3 k11 k12 s0 s1 ym1 yt1;obtain⟨i,s1,hi,rfl,HJs,hs1,HSs,b4,b6,HKs⟩:=hrel;have l4:=b4.lt;have l6:=b6.lt;have hw0:=HSs.out.bl;have hw0s:=hw0.size;by_cases hlt:i<t.length+1
     ·have YA:Hid (0<i-> ∃bs os p,At=some ⟨bs,os,none⟩/\bs<wr.heap.size/\wr.cell? ⟨bs,os+(i-1)*2,none⟩=some (.int .i64 p)):=jA (fun h0=>by obtain⟨⟨p,r⟩,hp⟩:=ec (l:=t) (i:=i-1) (by omega);obtain⟨b8,o8,e8,h8,y8,-⟩:=HCT.out (i-1) _ hp;exact⟨b8,o8,p,e8,by omega,a7 hw0 (by have:=HN0.out;omega) y8⟩);have YB:Hid (i<t.length-> ∃bs os p,At=some ⟨bs,os,none⟩/\bs<wr.heap.size/\wr.cell? ⟨bs,os+i*2,none⟩=some (.int .i64 p)):=jA (fun h0=>by obtain⟨⟨p,r⟩,hp⟩:=ec (l:=t) (i:=i) h0;obtain⟨b8,o8,e8,h8,y8,-⟩:=HCT.out i _ hp;exact⟨b8,o8,p,e8,by omega,a7 hw0 (by have:=HN0.out;omega) y8⟩);have e1:wrap64 ((i:Int)-1)=((i-1:Nat):Int)\/i=0:=by
       rcases kV i with h|h
       ·exact .inr h
       ·left;rw[show(i:Int)-1=((i-1:Nat):Int) by omega];exact qO _ (by omega)
      have d0:=b4.c 0;have d1:=b4.c 1;have d2:=b4.c 2;have d3:=b4.c 3;have d4:=b4.c 4;have d5:=b4.c 5
      gi_upto_if 59 with fail
      gi_cut [13] from 60 (fun s13 wc=> ∃v,s13=.int .i64 v/\wr=wc)
      case first=>
       by_cases hi1:0<i
       ·replace e1:=e1.resolve_right (Nat.ne_of_gt hi1);obtain⟨bs,os,pa,rfl,hbs,ya⟩:=YA.out hi1;gi_wp2_with fail;gi_meet;exact⟨_,rfl,rfl⟩
       ·gi_wp2_with fail;gi_meet
        exact⟨_,rfl,rfl⟩
      case rest=>
       obtain⟨va,rfl,rfl⟩:=hcut
       gi_upto_if 70 with fail
       gi_cut [14] from 71 (fun s14 wc=> ∃v,s14=.int .i64 v/\wr=wc)
       case first=>
        by_cases hit:i<t.length
        ·obtain⟨bs,os,pb,rfl,hbs,yb⟩:=YB.out hit;gi_wp2_with fail;gi_meet;exact⟨_,rfl,rfl⟩
        ·gi_wp2_with fail;gi_meet
         exact⟨_,rfl,rfl⟩
       case rest=>
        obtain⟨vb,rfl,rfl⟩:=hcut;gi_wp2;have hn0w:w0.heap.size<=wr.heap.size:=by have:=HN0.out;omega
        have hxw:Below w0.heap.size w0 wr:=by have:=hw0;rw[HN0.out] at this;exact this
        refine wpIn_wide.2 ?_;refine rB [] fun hS=> ?_;refine tk 0 hS ?_;refine tk 1 hS ?_;refine tk 2 hS ?_;refine tk 3 hS ?_;refine tk 5 hS ?_;refine tk 6 hS ?_;refine tk 7 hS ?_;refine tk 8 hS ?_;refine tk 11 hS ?_;refine tk 12 hS ?_;refine tk 13 hS ?_;refine tk 14 hS ?_;refine tO 4 fun K hK=> ?_;go_simp;refine(pk _ x _ _ _ (HX.out.below (hxw.trans (hS.mono hn0w)) (ij _))).mono ?_;rintro e w5 ⟨rfl,hb5⟩;generalize sm x.gn _ _=v1;have hS5:=hS.trans (hb5.mono hS.size);refine hK.out _ _ (hS5) ?_;clear hK K;refine tO 9 fun K hK=> ?_;go_simp;refine(pk _ x _ _ _ (HX.out.below (hxw.trans (hS5.mono hn0w)) (ij _))).mono ?_;rintro e w6 ⟨rfl,hb6⟩;generalize sm x.gn _ _=v2;have hS6:=hS5.trans (hb6.mono hS5.size);refine hK.out _ _ (hS6) ?_;clear hK K;have hS:=hS6;refine tk 10 hS ?_;refine tO 15 fun K hK=> ?_;go_simp;refine(pk _ x _ _ _ (HX.out.below (hxw.trans (hS6.mono hn0w)) (ij _))).mono ?_;rintro e w7 ⟨rfl,hb7⟩;generalize sm x.gn _ _=v3;have hS7:=hS6.trans (hb7.mono hS6.size);refine hK.out _ _ (hS7) ?_;clear hK K;refine tO 16 fun K hK=> ?_;go_simp;refine hK.out _ _ (hS7) ?_;clear hK K;refine tO 17 fun K hK=> ?_;go_simp;refine hK.out _ _ (hS7) ?_;clear hK K;refine tD ?_;gi_wp2;generalize IntKind.i64.wrap (IntKind.i64.wrap (v1+v2)-v3)=mo;have hn7:n0<=wr.heap.size:=by have:=HN0.out;omega
        have hltO:=HSs.out.lt;have HJ7:=jA (HJ.out s1 O1 O1 wr w7 HJs.out (gI.ke hS7) (fun b hb=>⟨.inl hb,bP (hltO b hb) hS7.size⟩));have HS7:=jA (HSs.out.below hS7 hn7);have HK7:Hid (∀b,O b->w7.heap[b]? =W.heap[b]?):=jA (fun b hb=>(hS7.block b (hltO b (by rw[HO1.out];exact .inl hb))).trans (HKs.out b hb));have b47:=b4.below hS7 l4;have b67:=b6.below hS7 l6;have ye7:w7.cell? ⟨be,oe+k,none⟩=some (.int .i64 el):=(oD (show w7.heap[be]? =W.heap[be]? from(HSt.out.o4 be rfl).elim (HK7.out be) (fun h=>(HS7.out.bl.block be h).trans (HB0.out.block be h).symm))).trans ye;have hbe7:=block_lt_of_cell ye7;have k37:=b47.c 3;have k127:=b47.c 12;have l47:=b47.lt;have l67:=b67.lt;have hn77:n0<=w7.heap.size:=eZ hn7 hS7.size;clear hS hS5 hS6 hS7 hb5 hb6 hb7 hltO d0 d1 d2 d3 d4 d5 hxw ye;by_cases g3:x.len<wrap64 (el+mo)
        ·have g3b:decide (wrap64 (el+mo)<=x.len)=false:=by simp;omega
         have g3c:decide (IntKind.i64.wrap (el+mo)<=x.len)=false:=by rw[IntWalk.i64_left];exact g3b
         refine wpIn_wide.2 ?_
         go_quiet (fail)
         gi_wp2;go_roundw
         case rel=>exact⟨_,_,_,_,_,_,⟨i+1,by omega,rfl,s1,jA (HJ.out s1 O1 O1 w7 _ HJ7.out (gI.drewN _ _ _) (fun b hb=>⟨.inl hb,HS7.out.lt b hb⟩)),by omega,jA (HS7.out.below (below_drewN (bS _ _) _) hn77),b47,b67⟩,rfl,rfl,rfl,rfl,rfl,rfl⟩
         case measure=>exact mI
        ·have g3':wrap64 (el+mo)<=x.len:=by omega
         have g3c:IntKind.i64.wrap (el+mo)<=x.len:=by rw[IntWalk.i64_left];exact g3'
         refine Md 17 3 (fun wS=>Below w7.heap.size w7 wS) [] (by kernel_rfl) rfl rfl (by kernel_rfl) (by kernel_rfl) (bS _ _).drew (fun hS=> ?_);refine tk 0 hS ?_;refine tk 1 hS ?_;refine tk 2 hS ?_;refine tk 3 hS ?_;refine tk 4 hS ?_;refine tk 5 hS ?_;refine tk 6 hS ?_;refine tk 7 hS ?_;refine tk 8 hS ?_;refine tk 9 hS ?_;refine tk 10 hS ?_;refine tk 11 hS ?_;try simp only[Act.put,gK,fJ,fI]
         refine jE 12 (v:= ?_) rfl (by rfl) (by kernel_rfl) (fun _ _ _ h=>h) ?_ hS ?_;rotate_left
         ·exact acz
         try simp only[Act.put,gK,fJ,fI]
         try simp only[Act.put,gK,fJ,fI]
         refine jE 13 (v:= ?_) rfl (by rfl) (by kernel_rfl) (fun _ _ _ h=>h) ?_ hS ?_;rotate_left
         ·exact acz
         try simp only[Act.put,gK,fJ,fI]
         try simp only[Act.put,gK,fJ,fI]
         refine jE 14 (v:= ?_) rfl (by rfl) (by kernel_rfl) (fun _ _ _ h=>h) ?_ hS ?_;rotate_left
         ·exact acz
         try simp only[Act.put,gK,fJ,fI]
         try simp only[Act.put,gK,fJ,fI]
         refine jE 15 (v:= ?_) rfl (by rfl) (by kernel_rfl) (fun _ _ _ h=>h) ?_ hS ?_;rotate_left
         ·exact acz
         try simp only[Act.put,gK,fJ,fI]
         try simp only[Act.put,gK,fJ,fI]
         refine jE 16 (v:= ?_) rfl (by rfl) (by kernel_rfl) (fun _ _ _ h=>h) ?_ hS ?_;rotate_left
         ·exact acz
         try simp only[Act.put,gK,fJ,fI]
         refine tD ?_;refine(show wpAnyIn Fence.wide n prog .any _ _ 3 _ _ _ from ?_);have HJd:=jA (HJ.out s1 O1 O1 w7 w7.drew HJ7.out (gI.drewN O1 w7 1) (fun b hb=>⟨.inl hb,HS7.out.lt b hb⟩));obtain⟨fn,tmps,assign,body,hy,hR⟩:=HY.out (n-1) s1 O1 #[.agg #[.int .i64 (k:Int),.int .i64 (i:Int),.int .i64 mo]] w7.drew HJd.out ⟨k,i,mo,rfl,⟨HS.out,HND.out,HNIN.out,.inl ⟨k,t,i,rfl,HKT.out,rfl,by omega⟩⟩,by omega⟩;refine uZ 17 rfl rfl (by kernel_rfl) (fun K hK=> ?_);go_simp;refine hR.mono ?_;rintro e W' ⟨rfl,hJ',hbl',hok'⟩;have HJ':=jA hJ';have HS':=jA ((HS7.out.below (below_drewN (bS _ _) 1) hn77).step hbl' hok');have HK':Hid (∀b,O b->W'.heap[b]? =W.heap[b]?):=jA (fun b hb=>(hok' b (by rw[HO1.out];exact .inl hb)).trans (HK7.out b hb));have b4':fc W' W.heap.size 375 _:=(hok' W.heap.size (by rw[HO1.out];exact .inr ⟨ij _,by omega⟩)).trans b47;have b6':fc W' (W.heap.size+1) 84 _:=(hok' (W.heap.size+1) (by rw[HO1.out];exact .inr ⟨by omega,by omega⟩)).trans b67;clear hJ' hok' hbl';refine hK.out _ _ ?_;clear hK K hy hR;try simp only[Act.put,gK,fJ,fI]
         refine uZ 18 rfl rfl (by kernel_rfl) (fun K hK=> ?_);go_simp;refine hK.out _ _ ?_;clear hK K;try simp only[Act.put,gK,fJ,fI]
         refine uZ 19 rfl rfl (by kernel_rfl) (fun K hK=> ?_);go_simp;refine hK.out _ _ ?_;clear hK K;try simp only[Act.put,gK,fJ,fI]
         refine JW (by kernel_rfl) ?_;gi_wp2;go_roundw
         case rel=>exact⟨_,_,_,_,_,_,⟨i+1,by omega,rfl,s1+1,HJ',by omega⟩,rfl,rfl,rfl,rfl,rfl,rfl⟩
         case measure=>exact mI
     ·gi_wp2;go_ret;exact⟨rfl,s1,O1,HJs.out,(fun b hb=>by rw[HO1.out];exact .inl hb),by omega,HSs.out,HKs.out⟩
end
section
open Go.Proofs.Tryz
open Go.RowKit Go.Shelf jm ko kN P15
attribute [local go_sem] iO
def OB (l:List Int) (z:Int):(qU l).contains z=decide (z∈l):=by rw[BE,List.contains_iff_mem,decide_eq_true_iff];exact(yi l).mem_iff
def R9 (v:Value) (L:List Int) (z:Int) (W:World) (h:gx W .i64 v L) (hs:L.Pairwise (· <= ·)) (l:L.length<=1000000):
  Calls prog 338 #[v,z] W fun e w'=>(∃i:Nat,e=.returned (.tuple #[i,.bool (L.contains z)]))/\Below W W w':=by
 obtain⟨A,c,rfl,h1,h2,a⟩:=gx.open_ h
 rcases kV L with h0|h0
 ·have:=gj h0;subst this;refine(slices_BinarySearch_int_empty A c z W).mono ?_;rintro e w' ⟨rfl,rfl⟩;exact⟨⟨0,rfl⟩,bS _ _⟩
 ·obtain⟨b,o,rfl,k,-⟩:=a 0 (L[0]) (by simp[h0]);refine(slices_BinarySearch_int b o L c L z W lE oG (fun j d=>?_) (by simpa using hs)).mono ?_
  ·obtain⟨g,m,f,-,y⟩:=a j (L[j]) (by simp[d]);cases f;rw[y,gR];simp[d]
  ·rintro e w' ⟨rfl,q,rfl⟩;rw[gh];exact⟨⟨_,rfl⟩,below_drewN bF q⟩
def FA:(prog.info? 44).map (·.size)=some 1:=kR
def xu (R kb sb:Nat) (A:World) (x:fS) (A1:Option Addr) (c1:Nat) (A2:Option Addr) (c2:Nat) (Ad:Option Addr) (cd:Nat) (d:Dy) (S:Value) (tw:Bool) (fv:Value) (D:Int) (lv ev:Value) (z q:Int) (KK:Nat)
  (hx:iz A (.agg (xC x A1 c1 A2 c2).toArray) x) (ho:eV x) (hd:RL 1 jf A (.slice Ad d cd) d) (hk:jS x.eB KK d) (bG:KK<=1000000) (aE:R=A):
  zO prog 337 #[.pointer sb,.pointer kb] R (Sd x.eB d (z,q)) (mi R kb sb A x A1 c1 A2 c2 Ad cd d S tw fv D lv ev z q):=by
 intro n l J O W hn m hJ hY h0;have bH:=m.bl.size;have bI:R<=W.heap.size:=oG;have bk:=m.k;have bs:=m.s;have lk:=bk.lt;have ls:=bs.lt;have Q:=m.lt;have ah:Hid (∀(O':Nat->Prop) (W':World),Below W W W'->(∀b,O b->O' b)->(∀b,O' b->O b\/W.heap.size<=b/\b<W'.heap.size)->J 0 O' W'/\mi R kb sb A x A1 c1 A2 c2 Ad cd d S tw fv D lv ev z q O' W'):=
  zH (fun O' W' k h1 h2=>by
   have hs:=k.size;refine⟨hJ 0 O O' W W' h0 (gI.ke k) (fun b aa=>?_),(m.below k bI).more h1 (fun b aa=>?_)⟩
   ·rcases h2 b aa with h|h
    ·exact⟨.inl h,by have:=Q b h;omega⟩
    ·exact⟨.inr h.1,h.2⟩
   ·rcases h2 b aa with h|h
    ·have:=Q b h;omega
    ·exact h.2)
 obtain⟨aR,aW,HX,HO,HD,HK⟩:=Zf m.r.on m.r.tw hx ho hd hk;have aM:Hid ((oN d).length<=1000000):=zH (by have:=hk.wt;have:=vB d;unfold oN;rw[fm];omega);obtain⟨HJ,HY,aL,cD,B⟩:=Ze hJ hY m.bl Q aE;have cM:=ho.head;clear hx ho hd hk hJ hY m h0 Q aE bH;refine callsIn_of_wp func337 rfl trivial ?_ rfl;simp only[ntmps337,gU,ff,fZ,Nat.reduceAdd,Nat.reduceSub,iq,ir,iX,iA,gQ,fY]
 gi_upto_region 0 with fail
 gi_cut [4,5] from 10 (fun p nv wc=> ∃g I M,p=.pointer (pB g)/\nv=.int .i64 d.length/\W.heap.size<=g/\fc wc g 44 [.slice I 1 M]/\Hid (OS W wc (.slice I 1 M) [(z,q)])/\Below W W wc)
 case first=>
  have s0:=bs.c 0;have T:=bs.c 1;have k6:=bk.c 6;refine wpIn_wide.2 ?_;refine rB [] fun hS=>?_;refine kL [0,2,3,4,5] ?_;refine pU ?_;refine mL 1 6 rfl rfl rfl rfl kR (fun K v=>?_) (fun K v=>?_)
  ·go_simp;refine(re z q _).mono ?_;rintro e w5 ⟨tv,rfl,E,P⟩;obtain⟨I,M,rfl,-⟩:=E.slice;have o:=zH (E.mono hS.size);have hS:=hS.trans (P.mono hS.size);refine v _ _ (hS) ?_;refine tO 6 fun K v=>?_;go_simp;have h6:=hS.alloc hS.size (cB 44 [()]);refine v _ _ (h6) ?_;refine tO 7 fun K v=>?_;refine gY _ 44 (.tmp 4) (.tmp 11) rfl w5 44 [()] [.slice I 1 M] (fc.new w5 _ [()]) rfl rfl FA rfl rfl ?_;intro w9 b9 F bZ;have Z:=(h6.grown F h6.size (fun q hq=>by cases hq;exact hS.size));refine v _ _ (Z) ?_;refine tO 8 fun K v=>?_;go_simp;refine v _ _ (Z) ?_;refine tD ?_;gi_wp2_with fail;gi_meet;exact⟨_,_,_,rfl,rfl,hS.size,b9,(oT (o.alloc _) (fc.new w5 _ [()]) dE F),Z⟩
  ·go_simp;have h6:=hS.alloc hS.size (cB 44 [()]);have hw:=hS.size;have b6:=fc.new W.drew 44 [()];refine v _ _ (h6) ?_;have hS:=h6;refine tO 1 fun K v=>?_;go_simp;refine(re z q _).mono ?_;rintro e w5 ⟨tv,rfl,E,P⟩;obtain⟨I,M,rfl,-⟩:=E.slice;have o:=zH (E.mono hS.size);have hS:=hS.trans (P.mono hS.size);refine v _ _ (hS) ?_;replace b6:=b6.below P b6.lt;refine tO 7 fun K v=>?_;refine gY _ 44 (.tmp 4) (.tmp 11) rfl W 44 [()] [.slice I 1 M] (b6) rfl rfl FA rfl rfl ?_;intro w9 b9 F bZ;have Z:=(hS.grown F hS.size (fun q hq=>by cases hq;exact lE));refine v _ _ (Z) ?_;refine tO 8 fun K v=>?_;go_simp;refine v _ _ (Z) ?_;refine tD ?_;gi_wp2_with fail;gi_meet;exact⟨_,_,_,rfl,rfl,lE,b9,(oT o b6 dE F),Z⟩
 case rest=>
  obtain⟨g,I,M,rfl,rfl,hg,bT,o,u⟩:=hcut;have bJ:=u.size;obtain⟨y,N⟩: ∃y:Nat->Prop,y=fun b=>O b\/W.heap.size<=b/\b<wc.heap.size:=⟨_,rfl⟩;have an:=zH N;obtain⟨aC,af⟩:=ah y wc u (by rw[N];exact fun b h=>.inl h) (by rw[N];exact fun b h=>h);obtain⟨X,aj⟩:=Zb af aC;clear aC af N ah;have f:=bk.below u lk;have L:=bs.below u ls;have lT:=bT.lt;have cg:=bT.lt;have d0:=f.c 0;have d1:=f.c 1;have d2:=f.c 2;have d3:=f.c 3;have d4:=f.c 4;have d5:=f.c 5;have d7:=f.c 7;have d8:=f.c 8;have au:=f.c 10;have s0:=L.c 0;have t0:=bT.c 0;have aF:A.heap.size<=W.heap.size:=by have:=B.out;omega
  have aH:Below A A wc:=by have:=aL.out;rw[B.out] at this;exact this.trans (u.mono aF)
  gi_wp2;refine⟨trivial,callsIn_wide.2 ((uu _ _ x [(z,q)] _ (HX.below aH lE) HO o.reads sI).mono ?_)⟩;rintro e w2 ⟨zf,rfl,⟨-,aI,-⟩,r⟩;have aZ:=zH aI;have bA:=a7 r lE d7;have cw:=a7 r lE s0;gi_wp2;refine⟨trivial,callsIn_wide.2 ((R9 _ _ z _ ((aR.below u lE).below r lE) (uU _) (by rw[oq];exact aM)).mono ?_)⟩;rintro e w3 ⟨⟨ip,rfl⟩,aA⟩;have c:=r.trans (aA.mono r.size);have cA:=u.trans (c.mono bJ);have j:=f.below c f.lt;have bh:=L.below c L.lt;have Y:=bT.below c lT;have aX:=o;have aU:=zH (o.below c lE);have cK:=c.size;have cO:=j.lt;have cQ:=bh.lt;have cN:=Y.lt;have ai:=zH (HJ.out 0 y y wc w3 aj.out (gI.ke c) (fun b k=>⟨.inl k,by have:=X.out.lt b k;omega⟩));have aS:=zH (X.below c oG);obtain⟨G,ag⟩:=nR ((qU (oN d)).contains z);rw[ag];have aV:=zH ag;clear d0 d1 d2 d3 d4 d5 d7 d8 au s0 t0 bA cw r aA c bk bs f L bT o aj X ag u aI lk ls lT aH;have d0:=j.c 0;have d1:=j.c 1;have d2:=j.c 2;have d3:=j.c 3;have d4:=j.c 4;have d5:=j.c 5;have d8:=j.c 8;have au:=j.c 10;have t0:=Y.c 0
  gi_upto_region 3 with fail
  gi_cut [43] from 28 (fun s wx=> ∃b,s=.bool b/\(b=false->zf≠1/\G=false/\tw=false)/\w3=wx)
  case first=>
   by_cases hz:zf=1
   ·subst hz;gi_wp2_with fail;gi_meet;exact⟨_,rfl,by simp[*],rfl⟩
   ·cases G
    ·cases tw
     ·by_cases hv:x.mm<d
      ·gi_wp2_with fail;gi_meet
       exact⟨_,rfl,by simp[*],rfl⟩
      ·gi_wp2_with fail;gi_meet
       exact⟨_,rfl,by simp[*],rfl⟩
     ·gi_wp2_with fail;gi_meet
      exact⟨_,rfl,by simp[*],rfl⟩
    ·cases tw
     ·gi_wp2_with fail;gi_meet
      exact⟨_,rfl,by simp[*],rfl⟩
     ·gi_wp2_with fail;gi_meet
      exact⟨_,rfl,by simp[*],rfl⟩
  case rest=>
   obtain⟨b,rfl,k,rfl⟩:=hcut;have HB:=zH k;clear k;cases b
   ·obtain⟨bY,aJ,aK⟩:=HB rfl;have C:=aV.out;rw[aJ,OB,decide_eq_false_iff_not] at C;have aG:=(aZ bY).1 (z,q) sI;obtain⟨HS,al,ak⟩:=Zc aG C (aW aK);subst aJ aK;clear C aG;have bU:R<=w3.heap.size:=oG;have cF:=HK.len;gi_wp2;gi_loopw [45] (fun iv wr=> ∃(i T:Nat) (H:Nat->Prop),i<=d/\iv=.int .i64 i/\Hid (J T H wr)/\T<=yw (d.take i)/\Hid (mi R kb sb A x A1 c1 A2 c2 Ad cd d S false fv D lv ev z q H wr)/\
     Hid (∀b,y b->H b)/\Hid (∀b,y b->wr.heap[b]? =w3.heap[b]?)) (fun iv _=>d.length-(intOf iv).toNat)
    case atStart=>exact⟨0,0,y,eC _,rfl,ai,eC _,aS,(fun _ h=>h),(fun _ _=>rfl)⟩
    case round=>
     obtain⟨i,T,H,hi,rfl,U,af,w,ao,V⟩:=hrel;have a:=w.k;have ar:=w.s;by_cases aD:i<d
     ·obtain⟨t,ht⟩:=ec aD;have cI:=rz ht;have cJ:=uB d (i+1);have q0:=a.c 0;have q1:=a.c 1;have q2:=a.c 2;have q3:=a.c 3;have q4:=a.c 4;have q5:=a.c 5;have q6:=a.c 6;have q7:=a.c 7;have q8:=a.c 8;have q9:=a.c 9;have cj:=a.c 10;have cT:=a.c 11;have cU:=a.c 12;have cV:=ar.c 0;have cX:=ar.c 1;gi_wp2;refine⟨trivial,callsIn_wide.2 (callsIn_wide.1 (CallsIn.mono (JV R kb sb A x A1 c1 A2 c2 Ad cd d S false fv D lv ev z q KK HX HO HD HK bG B HS ak al 1 l lE J HJ HY T H wr w U i t ht oG) ?_))⟩;rintro e w5 ⟨rfl,s5,O5,aw,ay,cH,az,ax⟩;obtain⟨aN,aT⟩:=Zb aw az;have aQ:Hid (∀b,y b->O5 b):=zH (fun b k=>ay b (ao b k));have aP:Hid (∀b,y b->w5.heap[b]? =w3.heap[b]?):=zH (fun b k=>(ax b (ao b k)).trans (V b k));clear aw az ay ax;gi_wp2;exact⟨⟨i+1,s5,O5,aD,rfl,aN,oG,aT,aQ,aP⟩,by simp[intOf];omega⟩
     ·have bO:y g:=by rw[an.out];exact .inr ⟨hg,cg⟩
      have aq:fc wr g 44 [.slice I 1 M]:=(V g bO).trans Y;have aY:Hid (OS W wr (.slice I 1 M) [(z,q)]):=zH (sM aU fun b k=>V b (by
       rw[an.out]
       rcases aX.2 with ⟨h,-⟩|⟨b2,cap,cE,h,r,aB,-⟩
       ·cases h
       ·cases h;cases k;exact .inr ⟨r,(aah.1 aB).1⟩))
      have cR:=aq.lt;have cP:=a.lt;have q0:=a.c 0;have q1:=a.c 1;have q2:=a.c 2;have q3:=a.c 3;have q4:=a.c 4;have q5:=a.c 5;have cj:=a.c 10;have cY:=aq.c 0
      gi_upto_region 9 with fail
      gi_cut [68] from 56 (fun s wx=> ∃b,s=.bool b/\wr=wx)
      case first=>
       by_cases cC:D=0
       ·by_cases hf:zf=0
        ·subst hf;by_cases hv:(d.length:Int)<x.mm
         ·gi_wp2_with fail;gi_meet
          exact⟨_,rfl,rfl⟩
         ·gi_wp2_with fail;gi_meet
          exact⟨_,rfl,rfl⟩
        ·gi_wp2_with fail;gi_meet
         exact⟨_,rfl,rfl⟩
       ·gi_wp2_with fail;gi_meet
        exact⟨_,rfl,rfl⟩
      case rest=>
       obtain⟨b,rfl,rfl⟩:=hcut;cases b
       ·gi_wp2;refine bodyPost_end (results_none rfl _ _ _) rfl ?_;exact⟨⟨_,rfl⟩,T,H,U⟩
       ·have bW:Below A A wr:=by have:=w.out.bl;rw[B.out] at this;exact this
        gi_wp2;refine⟨trivial,callsIn_wide.2 ((qE _ _ x [(z,q)] _ (HX.below bW lE) HO aY.reads sI (fun s hs=>by simp at hs;rw[hs];exact HS)).mono ?_)⟩;rintro e w6 ⟨rfl,ae⟩;generalize Mc x.gn _=mo;have cG:R<=wr.heap.size:=by have:=w.out.bl.size;have:=B.out;omega
        have aO:=zH (HJ T H H wr w6 U (gI.ke ae) (fun b k=>⟨.inl k,bP (w.lt b k) ae.size⟩));clear ae;have cL:=uB d i;obtain⟨fn,tmps,assign,body,hy,hR⟩:=HY (n-1) T H #[.agg #[(d.length:Int),Zo,mo]] w6 aO ⟨d.length,0,mo,rfl,⟨HS,ak,al,.inr ⟨rfl,rfl⟩⟩,oG⟩;gi_wp2;refine hR.mono ?_;rintro e W7 ⟨rfl,bB,-,-⟩;gi_wp2;refine bodyPost_end (results_none rfl _ _ _) rfl ?_;exact⟨⟨_,rfl⟩,T+1,H,bB⟩
   ·gi_wp2;refine bodyPost_ret (results_none rfl _ _ _) rfl ?_;exact⟨⟨_,rfl⟩,0,y,ai⟩
end
section
open Go.Proofs.Tryz
open Go.RowKit Go.Shelf jm ko kN P15
theorem Ro{p:Prop}(h:p:=by
 gi_wp2_with (refine wpListIn_plain rfl fun K F=>Bp (fun c e=>by cases e) (gY _ 380 (.tmp 8) (.tmp 28) rfl (w+1+1+1+1) 380 _ (vm t' p' m') V rfl rfl OK rfl rfl ?_);intro w9 b9 a dw;have ag:=N.grown a sI;have c59:w9.cell? (pB (w+1+1+1+1+1))=some _:=ag.cell 0;have cU:=ag.frozen 0;refine F _ _ ?_);have dn:=aQ;have dp:=M;refine⟨⟨(KeepsFrom.of_grownBy a (fun j e=>by cases e;omega)).trans (KeepsFrom.of_grownBy (grownBy_setCell' w9 _ _) (fun j e=>by cases e;omega)),((bS _ W2).grown a oG (fun j e=>by cases e;omega)).setCell (p:=pB (w+1+1+1+1+1)) dO _,fun k I=>?_⟩,M,(hb.grown a oG (fun j e=>by cases e;omega)).setCell (p:=pB (w+1+1+1+1+1)) dO _,?_,?_,?_,?_,t',p',m',true,?_,ag.gH 0 _,fun _=>bJ⟩
 ·have:=M k I;exact(fX w9 _ 0 _ k oG).trans (a.block k (cg k I) (fun e=>by cases e;omega))
 ·exact(U.grown a (fun e=>absurd (fg e) oG)).kj (p:=pB (w+1+1+1+1+1)) dO _
 ·exact(J.grown a sI).kj (p:=pB (w+1+1+1+1+1)) dO _
 ·exact(R.grown a sI).kj (p:=pB (w+1+1+1+1+1)) dO _
 ·exact(Y.grown a sI).kj (p:=pB (w+1+1+1+1+1)) dO _
 ·exact b9.kj (p:=pB (w+1+1+1+1+1)) dO _):p:=h
attribute [local go_sem] iO
variable {D l lb:Nat} {W w':World} {d:Dy} {o:Obj} {v:Value}
def Bu (x:fS) (A1:Option Addr) (c1:Nat) (A2:Option Addr) (c2:Nat) (Ad:Option Addr) (n cd:Nat) (C:Value) (tw:Bool) (fv:Value) (Q:Int) (lv ev:Value) (z q:Int) (w:World):
  Calls prog 321 #[.agg (nD x A1 c1 A2 c2 Ad n cd C tw fv Q lv ev).toArray,.agg #[z,q]] w fun e w'=>
   e=.returned (.func (.func 337) #[] #[.pointer (pB (w+1)),.pointer w])/\fc w' w 375 (nD x A1 c1 A2 c2 Ad n cd C tw fv Q lv ev)/\
   fc w' (w+1) 84 [z,q]/\Below w w w'/\w'.heap.size=w.heap.size+2:=by
 go_enter func321,ntmps321;go_wp2;go_ret;exact⟨rfl,(fc.new w _ _).alloc _,fc.fW _ _ _ sI,bL (bL bF _) _,by simp⟩
def fQ.step {t:Tr} (h:RL 2 iH w v t) (l:w.heap.size<=w') (hc: ∀p u,w.cell? p=some u->w'.cell? p=some u):RL 2 iH w' v t:=by obtain⟨A,c,e,M,h2,h3⟩:=h;refine⟨A,c,e,M,h2,fun k=>?_⟩;obtain⟨b,o,e,hb,f⟩:=h3 k;refine⟨b,o,e,bP hb l,fun i x hx=>?_⟩;obtain⟨cs,n,a,g⟩:=f i x hx;exact⟨cs,n,a,fun j u hu=>hc _ _ (g j u hu)⟩
def iK.step (h:RL 1 jf w v d) (l:w.heap.size<=w') (hc: ∀p u,w.cell? p=some u->w'.cell? p=some u):RL 1 jf w' v d:=by obtain⟨A,c,e,M,h2,h3⟩:=h;refine⟨A,c,e,M,h2,fun k=>?_⟩;obtain⟨b,o,e,hb,f⟩:=h3 k;refine⟨b,o,e,bP hb l,fun i x hx=>?_⟩;obtain⟨cs,n,⟨tv,e,a⟩,g⟩:=f i x hx;exact⟨cs,n,⟨tv,e,fQ.step a l hc⟩,fun j u hu=>hc _ _ (g j u hu)⟩
def Hy (hD:W.heap[D]? =some o) (ho:o.isCells=false) (a:Obj) (p:Addr) (u:Value) (h:W.cell? p=some u):(W.putObj D a).cell? p=some u:=by refine(grownBy_putObj' W D a).cell h fun e=>?_;cases e;unfold World.cell? at h;rw[hD] at h;cases o <;>simp_all [Obj.isCells]
def pS {g:Nat} {t:TypeId} {cs:List Value} (h:fc W g t cs) (hD:W.heap[D]? =some o) (ho:o.isCells=false) (a:Obj):fc (W.putObj D a) g t cs:=
 ((grownBy_putObj' W D a).block g h.lt (fun e=>by cases e;unfold fc at h;rw[hD] at h;cases h;cases ho)).trans h
abbrev vm (t p m:Int):List Value:=[t,p,m]
def qw:(prog.info? 39).map (·.size)=some 1:=kR
def OK:(prog.info? 380).map (·.size)=some 3:=kR
def D4 (w:World) (x:fS) (A1:Option Addr) (c1:Nat) (A2:Option Addr) (c2:Nat) (Ad:Option Addr) (cd:Nat) (d:Dy) (z q:Int):Jt:=fun _ O W=>
 (∀k,O k->w.heap.size+6<=k)/\Below w w W/\fc W w 25 (xC x A1 c1 A2 c2)/\fc W (w+1) 39 [.slice Ad d cd]/\fc W (w+1+1) 84 [z,q]/\
 fc W (w+1+1+1) 39 [()]/\ ∃(t p m:Int) (f:Bool),fc W (w+1+1+1+1) 380 (vm t p m)/\fc W (w+1+1+1+1+1) 4 [f]/\(f=true->PW x.eB d (z,q) t p)
section
variable {x:fS} {A1:Option Addr} {c1:Nat} {A2:Option Addr} {c2:Nat} {Ad:Option Addr} {cd:Nat} {d:Dy} {z q:Int}
def D4.ab:Ms (D4 w x A1 c1 A2 c2 Ad cd d z q):=fun s O b A B hj l ho=>by
 obtain⟨M,hb,U,J,R,Y,t,p,m,f,V,N,hf⟩:=hj;have n:=N.lt;have I: ∀g,g<w.heap.size+6->B.heap[g]? =A.heap[g]? :=fun g hg=>l.block g oG fun h=>by have:=M g h;omega
 exact⟨fun k a=>by rcases (ho k a).1 with h|h;exact M k h;omega,hb.trans ⟨l.os,l.tape,l.output,l.size,fun k a=>I k oG⟩,
  (I _ oG).trans U,(I _ oG).trans J,(I _ oG).trans R,(I _ oG).trans Y,t,p,m,f,(I _ oG).trans V,(I _ oG).trans N,hf⟩
def D4.bk {B:Nat} (b:w.heap.size<=B) (s:Nat) (O:Nat->Prop):rR B (D4 w x A1 c1 A2 c2 Ad cd d z q s O):=fun A C row hj hg a=>by obtain⟨M,hb,U,J,R,Y,t,p,m,f,V,N,hf⟩:=hj;exact⟨M,rR.below b lE A C row hb hg a,rR.ig _ _ _ A C row U hg a,rR.ig _ _ _ A C row J hg a,rR.ig _ _ _ A C row R hg a,rR.ig _ _ _ A C row Y hg a,t,p,m,f,rR.ig _ _ _ A C row V hg a,rR.ig _ _ _ A C row N hg a,hf⟩
end
def OL.putObj {α:Type} {e:TypeId} {size:Nat} {O:World->List Value->α->Prop} {L:List α} (h:OL lb e size O w v L) (a:Obj) (n:w.heap[l]? =some o) (ho:o.isCells=false) (hO: ∀cs x,O w cs x->O (w.putObj l a) cs x):OL lb e size O (w.putObj l a) v L:=by obtain⟨b,M,h2,h3,f⟩:=h;exact⟨b,M,h2,ownsRow_putObj h3 a n ho,fun i x cs hx hc=>hO _ _ (f i x cs hx hc)⟩
def OT.putObj (h:OT lb w v d) (a:Obj) (n:w.heap[l]? =some o) (ho:o.isCells=false):OT lb (w.putObj l a) v d:=
 OL.putObj h a n ho fun _ _ ⟨v,e,h⟩=>⟨v,e,OL.putObj h a n ho fun _ _ h=>h⟩
def ae7 (d:Dy) (k p:Nat) (s:vg):(Gq d k p s).length=d.length:=by unfold Gq;simp
def vK (x:fS) (A1:Option Addr) (c1:Nat) (A2:Option Addr) (c2:Nat) (Ad:Option Addr) (cd:Nat) (d:Dy) (z q:Int) (w:World) (hx:iz w (.agg (xC x A1 c1 A2 c2).toArray) x) (ho:eV x) (hd:RL 1 jf w (.slice Ad d cd) d)
  (I:jS x.eB 4000 d) (aI: ∀t∈d,t≠[]):
  Calls prog 308 #[.agg (xC x A1 c1 A2 c2).toArray,.agg #[.slice Ad d cd],.agg #[z,q]] w fun e w'=>
   ∃dv d',∃b:Bool,e=.returned (.tuple #[.agg #[dv],b])/\OT w w' dv d'/\jS x.eB 4000 d'/\((∀t∈d',t≠[])/\(b=true->d'≠[]/\(d=[]->d'=[[(z,q)]])))/\Below w w w':=by
 obtain⟨HX,HO,HD,HK,aG⟩:=Ze hx ho hd I aI;have dK:=I.len;clear hx ho hd I aI;refine(callsIn_wide (n:=4)).1 ?_;refine callsIn_of_wp_marks func308 rfl trivial ?_ rfl;simp only[ntmps308,gU,ff,fZ,Nat.reduceAdd,Nat.reduceSub,iq,ir,iX,iA,gQ,fY]
 gi_upto_region 2 with fail
 obtain⟨w1,aZ,⟨U,J,R,Y,V,N,-⟩,ar,cJ⟩:=sk w [(25,xC x A1 c1 A2 c2),(39,[.slice Ad d cd]),(84,[z,q]),(39,[()]),(380,vm 0 0 0),(4,[false])];simp only[Hk] at aZ;rw[aZ];replace cJ:w1.heap.size=w.heap.size+1+1+1+1+1+1:=cJ;clear aZ;obtain⟨k0,k1,k2,k3,k4,k5⟩:=U.jI;have d0:=J.c 0;have s0:=R.c 0;have s1:=R.c 1
 gi_cut [17] from 13 (fun f wB=> ∃(A:World) (C:Value) (tw:Bool) (fv:Value) (Q:Int) (lv ev:Value),f=.func (.func 337) #[] #[.pointer (pB (A+1)),.pointer A]/\
  Hid (vt A d C tw fv lv ev)/\Hid (∀v∈[C,fv,lv,ev],∀g,v.ownBlock=some g->w1.heap.size<=g/\g<A.heap.size)/\Below w1 w1 A/\Below A A wB/\wB.heap.size=A.heap.size+2/\
  fc wB A 375 (nD x A1 c1 A2 c2 Ad d cd C tw fv Q lv ev)/\fc wB (A+1) 84 [z,q])
 case first=>refine wpIn_wide.2 ?_;refine rB [] fun hS=>?_;refine kL [0,1,3] ?_;refine tO 2 fun K F=>?_;go_simp;refine(Fq x A1 c1 A2 c2 Ad cd d 4000 _ (HX.below (ar.trans (hS.mono ar.size)) lE) HO (iK.below HD (ar.trans (hS.mono ar.size)) lE) HK oG).mono ?_;rintro e wA ⟨C,tw,fv,Q,lv,ev,rfl,cF,aP,au⟩;obtain⟨cG,aX⟩:=Zb cF aP;clear cF aP;have hS:=hS.trans (au.mono hS.size);refine F _ _ (hS) ?_;refine tO 4 fun K F=>?_;go_simp;refine(Bu x A1 c1 A2 c2 Ad d cd C tw fv Q lv ev z q _).mono ?_;rintro e wB ⟨rfl,bk,bs,aw,aJ⟩;have cZ:=hS.trans (aw.mono hS.size);refine F _ _ (cZ) ?_;refine pU ?_;refine qi kR ?_;unfold oB;gi_wp2_with fail;gi_meet;exact⟨wA,C,tw,fv,Q,lv,ev,rfl,cG,aX,hS,aw,aJ,bk,bs⟩
 case rest=>
  obtain⟨A,C,tw,fv,Q,lv,ev,rfl,bB,aL,au,aw,aJ,bk,bs⟩:=hcut;have E:=au.trans (aw.mono au.size);have aQ:=E.size;have dr:=au.size;replace U:=U.below E U.lt;replace J:=J.below E J.lt;replace R:=R.below E R.lt;replace Y:=Y.below E Y.lt;replace V:=V.below E V.lt;replace N:=N.below E N.lt;have ak:=ar.trans (E.mono ar.size);obtain⟨O0,aq⟩: ∃O0:Nat->Prop,O0=fun b=>w1.heap.size<=b/\b<wc.heap.size:=⟨_,rfl⟩;have aF: ∀v∈[C,fv,lv,ev],InO (fun b=>O0 b\/b<w.heap.size) v:=fun v hv g hg=>by have:=aL.out v hv g hg;rw[aq];exact .inl ⟨this.1,oG⟩
  have cL:Hid (mi w A (A+1) w x A1 c1 A2 c2 Ad cd d C tw fv Q lv ev z q O0 wc):=zH
   ⟨ak,bk,bs,bB.below aw lE,by rw[aq];exact⟨dr,oG⟩,by rw[aq];exact⟨oG,oG⟩,aF _ sI,aF _ sI,aF _ sI,aF _ sI,by rw[aq];exact fun k h=>h.2⟩
  obtain⟨bH,dJ⟩:=Zb aq aJ;clear aJ aF aq bk bs au aw bB aL k0 k1 k2 k3 k4 k5 d0 s0 s1;gi_wp2;refine(qL oG (gf:=337) (lb:= #[.pointer (pB (A+1)),.pointer A]) rfl (enters_of func337 kR rfl)
   (xu w A (A+1) w x A1 c1 A2 c2 Ad cd d C tw fv Q lv ev z q 4000 HX HO HD HK oG rfl) ak.size (fun s O W x h=>by obtain⟨t,p,m,rfl,-⟩:=h;rfl)
   (D4 w x A1 c1 A2 c2 Ad cd d z q) D4.ab (D4.bk ak.size) O0 (by rw[bH.out];exact fun k h=>h.2) (fun W hg=>cL.below ⟨hg.os,hg.tape,hg.output,hg.size,fun k I=>hg.block k I sI⟩ ak.size)
   ⟨by rw[bH.out];exact fun k h=>by have:=h.1;omega,ak,U,J,R,Y,0,0,0,false,V,N,fun h=>by cases h⟩ ?round ?done)
  case round=>
   intro m l s O x' W K hI cY hO dt F;obtain⟨t',p',m',rfl,H,-⟩:=cY;have bJ:=zH H;have bZ:D4 w x A1 c1 A2 c2 Ad cd d z q s O (W.alloc (cB 380 (vm t' p' m'))):=D4.ab s O O _ _ hI (gI.alloc O W _) (fun k I=>⟨.inl I,bP (hO k I) sI⟩);have bU:ju wc w O W (W.alloc (cB 380 (vm t' p' m'))):=⟨(KeepsOthers.alloc _ _).from _,(bS _ W).alloc (eZ ak.size dt) _,fun k I=>((bS _ W).alloc lE _).block k (hO k I)⟩;have ah:=fc.new W 380 (vm t' p' m');obtain⟨bA,bh,bG⟩:=Zc bZ bU ah;clear H hI bZ bU ah U J R Y V N;gi_wp2;refine F _ _ bh (fun m l W2 cg dP aV=>?_);have ah:=aV _ (rR.ig W 380 (vm t' p' m')) bG;obtain⟨M,hb,U,J,R,Y,t,p,mo,f,V,N,hf⟩:=aV _ (D4.bk ak.size s O) bA;have HF:=zH hf;have l5:=N.lt;have lN:=ah.lt;have c4:=V.c 2;have c5:=N.c 0;have n0:=ah.c 0;have n1:=ah.c 1;have n2:=ah.c 2;clear bA bG bh aV hf;by_cases hc:f=false\/m'<mo
   ·cases f
    ·exact Ro
    ·have dj:m'<mo:=by simpa using hc
     exact Ro
   ·obtain rfl:f=true:=by cases f <;>simp_all
    have dj: ¬(m'<mo):=fun h=>hc (.inr h);gi_wp2;exact⟨ju.refl _ _ _ _,M,hb,U,J,R,Y,t,p,mo,true,V,N,fun _=>HF trivial⟩
  case done=>
   intro D s O W hD hI cD;obtain⟨M,hb,U,J,R,Y,t,p,mo,f,V,N,hf⟩:=hI;have HF:=zH hf;have cj:=hb.size;have dN:wc.heap.size<=D:=hD;have cX:=(aah.1 cD).1;have l5:=N.lt;have d0:=J.c 0;clear hf M;gi_wp2;refine⟨trivial,callsIn_wide.2 ((H4 Ad cd d W (iK.below HD.out hb lE) (fun t ht=>by have:=HK.out.Su ht;omega) oG).mono ?_)⟩;rintro e Wc ⟨X,B,tvs,rfl,bW,S⟩;replace U:=U.below S U.lt;replace J:=J.below S J.lt;replace R:=R.below S R.lt;replace Y:=Y.below S Y.lt;replace V:=V.below S V.lt;replace N:=N.below S l5;have cC:Wc.heap[D]? =some (.deferred (some [])):=(S.block D cX).trans cD;have f1:=J.frozen 0;have d0:=J.c 0
   gi_upto_region 9 with fail
   have q0:=U.kj (p:=pB (w+1)) dO (.slice X d B);have q1:fc (Wc.setCell (pB (w+1)) (.slice X d B)) (w+1) 39 [.slice X d B]:=J.gH 0 (.slice X d B);have q2:=R.kj (p:=pB (w+1)) dO (.slice X d B);have q3:=Y.kj (p:=pB (w+1)) dO (.slice X d B);have q4:=V.kj (p:=pB (w+1)) dO (.slice X d B);have q5:=N.kj (p:=pB (w+1)) dO (.slice X d B);have aH:=bW.fG (q:=(pB (w+1))) dO (.slice X d B);have ai:Below w w (Wc.setCell (pB (w+1)) (.slice X d B)):=(hb.trans (S.mono cj)).setCell (p:=pB (w+1)) dO _;have r:(Wc.setCell (pB (w+1)) (.slice X d B)).heap[D]? =some (.deferred (some [])):=(fX _ _ _ _ _ oG).trans cC;have z5:W.heap.size<=(Wc.setCell (pB (w+1)) (.slice X d.length B)).heap.size:=by have:=S.size;simp;omega
   clear f1 d0 U J R Y V N cC bW S;revert q0 q1 q2 q3 q4 q5 aH ai r z5;generalize Wc.setCell (pB (w+1)) (.slice X d B)=W5;intro q0 q1 q2 q3 q4 q5 aH ai r z5;have ao:=zH aH;clear aH;have f3:=q3.frozen 0;have d1:=q1.c 0;have d3:=q3.c 0;have d5:=q5.c 0;have d4:=q4.c 0;have aA:=q4.c 1;have s0:=q2.c 0;have s1:=q2.c 1;have dV:=q5.lt;have dx:=q1.lt;have dS:=q2.lt;have dz:=q3.lt;have dU:=q4.lt;cases f
   ·gi_wp2;have o:Hid ((W5.setCell (pB (w+1+1+1)) (.slice X d B)).heap[D]? =some (.deferred (some []))):=zH ((fX _ _ _ _ _ oG).trans r);have BX:Hid (fc (W5.setCell (pB (w+1+1+1)) (.slice X d B)) (w+1+1+1) 39 [.slice X d B]):=zH (q3.gH 0 _);have RX:=zH (ao.fG (q:=(pB (w+1+1+1))) dO (.slice X d B)).ot;have az:Hid (Below w w (W5.setCell (pB (w+1+1+1)) (.slice X d B))):=zH (ai.setCell (p:=pB (w+1+1+1)) dO _);refine⟨by simp,.inl ⟨_,_,rfl,run_takeDeferred o,?_⟩⟩;exact⟨_,iw rfl _ _ (w+1+1+1) 39 [.slice X d B] _ false rfl rfl (pS BX o rfl _) underlying39 rfl qw,_,d,false,rfl,(RX.mono oG).putObj _ o rfl,HK,⟨aG,fun h=>by cases h⟩,nb az lE oG o⟩
   ·have H:=HF rfl;by_cases ht:t=(d.length:Int)
    ·subst ht
     gi_upto_region 12 with fail
     have Z:=(D1.own HK.st aG H.nd H.sok H.nin);have aB:jS x.eB 4000 (d++[[(z,q)]]):=⟨Z.dy.st,by have:=Z.dy.wt;have:=HO.out.head;omega⟩;obtain⟨aR,aS⟩:=Zb Z aB;clear Z aB H;have z6:=z5;refine wpIn_wide.2 ?_;refine rB [5,6,7] fun hS=>?_;refine kL [0,1,2] ?_;refine tO 3 fun K F=>?_;go_simp;refine(re z q _).mono ?_;rintro e w6 ⟨tv,rfl,T,cw⟩;obtain⟨At,ct,rfl,-⟩:=T.slice;have hS:=hS.trans (cw.mono hS.size);have dI:=zH T;have dH:=hS.size;have aU:=ao.below hS;have aO:OS W w6 (.slice At 1 ct) [(z,q)]:=T.mono (by show W.heap.size<=W5;omega);refine F _ _ (hS) ?_;refine tO 4 fun K F=>?_;go_simp;refine F _ _ ((hS.alloc hS.size _)) ?_;refine tL 5 fun K F=>?_;refine ma w6 _ _ 37 rfl W 44 _ 1 24 underlying37 uz rfl dE dE _ d tvs aU.own rfl [.slice At 1 ct] _ rfl rfl rfl oG oG ?_;intro g cap P ay aa dM ax dR;refine F _ _ ?_;refine tL 6 fun K F=>?_;go_simp;refine F _ _ ?_;have aM:=ax.below oG;have cA:CT W P (.slice (pB g) (d+1) cap) (tvs++[.slice At 1 ct]) (d++[[(z,q)]]):=aU.more ay ax aO (fun g hg=>(T.lt g hg).2) (fun u hu b hb e=>by have M:=ao.lt u hu b hb;have h2:W5.heap.size<=b:=(T.lt b e).1;omega);have cK:=zH cA;have r1:=ax.ig (q1.below hS q1.lt) dE;have r3:=ax.ig (q3.below hS q3.lt) dE;have cR:=r1.frozen 0;have cO:=r1.c 0;have aE:P.heap[D]? =some (.deferred (some [])):=(ax.block D (by have:=(aah.1 r).1;omega) (.inr fun cs fr e=>by rw[hS.block D (aah.1 r).1,r] at e;cases e)).trans ((hS.block D (aah.1 r).1).trans r);have aC:=(ai.trans (hS.mono ai.size)).trans (aM.mono cj);clear cA ay aO T aU d3 f3;refine tL 7 fun K F=>?_;go_simp;refine F _ _ ?_;refine pU ?_;refine qi kR ?_;unfold oB;have an:fc (P.setCell (pB (w+1)) (.slice g (d+1) cap)) (w+1) 39 [.slice g (d+1) cap]:=r1.gH 0 _;have L:=r3.kj (p:=pB (w+1)) dO (.slice g (d+1) cap);have G:=(cK.fG (q:=(pB (w+1))) dO (.slice g (d+1) cap)).ot;have al:(P.setCell (pB (w+1)) (.slice g (d+1) cap)).heap[D]? =some (.deferred (some [])):=(fX _ _ _ _ _ oG).trans aE;have aj:Below w w (P.setCell (pB (w+1)) (.slice g (d+1) cap)):=aC.setCell (p:=pB (w+1)) dO _;clear hS r1 r3 cR cO aE aC ax aM cw d1 d4 aA d5 s0 s1 q0 q1 q2 q3 q4 q5;revert an L G al aj;generalize P.setCell (pB (w+1)) (.slice g (d+1) cap)=W8;intro an L G al aj;have aT:=zH G;clear G;have cT:=L.frozen 0;have cQ:=L.c 0;have cP:=an.c 0;gi_wp2;have o:Hid ((W8.setCell (pB (w+1+1+1)) (.slice g (d+1) cap)).heap[D]? =some (.deferred (some []))):=zH ((fX _ _ _ _ _ oG).trans al);have BX:Hid (fc (W8.setCell (pB (w+1+1+1)) (.slice g (d+1) cap)) (w+1+1+1) 39 [.slice g (d+1) cap]):=zH (L.gH 0 _);have RX:=zH (aT.fG (q:=(pB (w+1+1+1))) dO (.slice g (d+1) cap));have az:Hid (Below w w (W8.setCell (pB (w+1+1+1)) (.slice g (d+1) cap))):=zH (aj.setCell (p:=pB (w+1+1+1)) dO _);refine⟨by simp,.inl ⟨_,_,rfl,run_takeDeferred o,?_⟩⟩;exact⟨_,iw rfl _ _ (w+1+1+1) 39 [.slice g (d.length+1) cap] _ true rfl rfl (pS BX o rfl _) underlying39 rfl qw,_,d++[[(z,q)]],true,rfl,(RX.mono oG).putObj _ o rfl,aS,⟨aR.ne,fun _=>⟨by simp,fun e=>by rw[e];rfl⟩⟩,nb az lE oG o⟩
    ·obtain⟨k,u,j,rfl,hu,rfl,hj⟩:=H.at_.resolve_right (fun h=>ht h.1);have cE:=fP hu;obtain⟨tv,aY,T⟩:=ao.os k u hu;obtain⟨g,c',dg,dL,dh,⟨dC,af⟩,aD⟩:=ao.cell oG;cases dg;obtain⟨y,yf⟩:=aD k tv aY;have du:0<u.length:=jQ.2 (aG u (a8 hu));obtain⟨gb,cb,rfl,dD,dF,dB,aW⟩: ∃gb cb,tv=.slice (pB gb) u cb/\W.heap.size<=gb/\gb<W5.heap.size/\ ∃cN,W5.heap[gb]? =some (.cells cN 84 (0,0)):=by
      rcases T.2 with ⟨-,h0⟩|⟨g2,c2,bO,M,h2,h3,-⟩
      ·omega
      ·exact⟨g2,c2,M,h2,(aah.1 h3).1,bO,h3⟩
     have aN:g≠gb:=fun e=>by rw[e,aW] at af;injection af with af;injection af with _ af;exact absurd af dE
     have bY:D≠gb:=fun e=>by rw[e,aW] at r;cases r
     have cV:D≠g:=fun e=>by rw[e,af] at r;cases r
     have dQ:=HK.Su (a8 hu);have Z:=D1.put (p:=j) HK.st aG H.nd H.sok H.nin hu;have aB:jS x.eB 4000 (Gq d k j (z,q)):=⟨Z.dy.st,by have:=Z.dy.wt;have:=HO.out.head;omega⟩;obtain⟨aR,aS,bI,HU,cM⟩:=Ze Z aB T hu aY;clear Z aB H T aD hu aY
     gi_upto_region 8 with fail
     refine wpIn_wide.2 ?_;refine rG (fun wS=>wS.cell? (pA g k)=some (.slice gb u cb)/\wS.cell? (pA (w+1+1+1+1) 1)=some (j:Int)/\wS.cell? (pB (w+1+1))=some z/\wS.cell? (pA (w+1+1) 1)=some q) [12] (⟨y,aA,s0,s1⟩) fun hS=>?_;refine kL [0,1,2,3,4,5,6,7] ?_;refine tO 8 fun K F=>?_;go_simp;have bV:=(fc.new W5 84 [z,q]).drewN 1;have i:Below W5 W5 ((W5.alloc (cB 84 [z,q])).drew):=(bL bF _).drew;revert bV i;show∀(bV:fc ((W5.alloc (cB 84 [z,q])).drew) _ _ _),_;generalize (W5.alloc (cB 84 [z,q])).drew=W6;intro bV i;have dG:=i.size;refine F _ _ (⟨a7 i lE y,a7 i lE aA,a7 i lE s0,a7 i lE s1⟩) ?_;refine tO 9 fun K F=>?_;go_simp;refine(QJ W W6 gb cb u j W5 z q (bI.below i lE) du oG hj oG bV oG).mono ?_;rintro e P ⟨rv,rfl,ay,aa⟩;obtain⟨Ar,cr,cI,-⟩:=ay.slice;obtain⟨nr,cH⟩:=nR ((u.take j++((z,q)::u.drop j)).length);rw[cH] at cI;subst cI;clear cH;have y7:=aa.cell (a7 i lE y) (fun e=>aN (fg e));have hS:P.cell? (pA g k)=some (.slice gb u cb)/\P.cell? (pA (w+1+1+1+1) 1)=some (j:Int)/\P.cell? (pB (w+1+1))=some z/\P.cell? (pA (w+1+1) 1)=some q:=
      ⟨y7,aa.cell (a7 i lE aA) (fun e=>absurd (fg e) dO),aa.cell (a7 i lE s0) (fun e=>absurd (fg e) dO),aa.cell (a7 i lE s1) (fun e=>absurd (fg e) dO)⟩
     have ae: ∀b,b<W5.heap.size->b≠gb->P.heap[b]? =W5.heap[b]? :=fun b hb aI=>(aa.block b oG (fun e=>aI (fg e))).trans (i.block b hb);have dA:P.frozen? (pA g k)=false:=(World.frozen?_of_block (ae g dh aN)).trans yf;have G:=(ao.below i).put HU cM aa ay (fun t=>t.take j++(z,q)::t.drop j) rfl;have r1:fc P (w+1) 39 [.slice g d B]:=(ae _ dx oG).trans q1;have r3:fc P (w+1+1+1) 39 [()]:=(ae _ dz oG).trans q3;have aE:P.heap[D]? =some (.deferred (some [])):=(ae D (aah.1 r).1 bY).trans r;have aC:Below w w P:=(ai.trans (i.mono ai.size)).grown aa oG (fun b e=>by cases e;omega);have aK:=zH G;refine F _ _ (hS) ?_;clear ay G;refine kL [10,11] ?_;refine tL 12 fun K F=>?_;go_simp;refine F _ _ ?_;refine pU ?_;refine qi kR ?_;unfold oB;have an:fc (P.setCell (pA g k) (.slice Ar nr cr)) (w+1) 39 [.slice g d B]:=r1.kj (p:=pA g k) dO (.slice Ar nr cr);have L:fc (P.setCell (pA g k) (.slice Ar nr cr)) (w+1+1+1) 39 [()]:=r3.kj (p:=pA g k) dO (.slice Ar nr cr);have al:(P.setCell (pA g k) (.slice Ar nr cr)).heap[D]? =some (.deferred (some [])):=(fX _ _ _ _ _ cV).trans aE;have aj:Below w w (P.setCell (pA g k) (.slice Ar nr cr)):=aC.setCell (p:=pA g k) dO _;have G:=aK.out;clear aK hS r1 r3 aE aC aa d1 d4 aA d5 s0 s1 q0 q1 q2 q3 q4 q5 y y7 yf dA ae i bV af aW f3 d3;revert an L G al aj;generalize P.setCell (pA g k) (.slice Ar nr cr)=W8;intro an L al aj G;have aT:=zH G;clear G;have cT:=L.frozen 0;have cQ:=L.c 0;have cP:=an.c 0;gi_wp2;have o:Hid ((W8.setCell (pB (w+1+1+1)) (.slice g d B)).heap[D]? =some (.deferred (some []))):=zH ((fX _ _ _ _ _ oG).trans al);have BX:Hid (fc (W8.setCell (pB (w+1+1+1)) (.slice g d B)) (w+1+1+1) 39 [.slice g d B]):=zH (L.gH 0 _);have RX:=zH (aT.fG (q:=(pB (w+1+1+1))) dO (.slice g d B));have az:Hid (Below w w (W8.setCell (pB (w+1+1+1)) (.slice g d B))):=zH (aj.setCell (p:=pB (w+1+1+1)) dO _);refine⟨by simp,.inl ⟨_,_,rfl,run_takeDeferred o,?_⟩⟩;exact⟨_,iw rfl _ _ (w+1+1+1) 39 [.slice g d.length B] _ true rfl rfl (pS BX o rfl _) underlying39 rfl qw,_,Gq d k j (z,q),true,rfl,(RX.mono oG).putObj _ o rfl,aS,⟨aR.ne,fun _=>⟨fun e=>absurd (ae7 d k j (z,q)) (by rw[e];simp;omega),fun e=>by rw[e] at cE;simp at cE⟩⟩,nb az lE oG o⟩
end
end Go.Proofs.YtgimnjldndkalaaGreatDoor
