/- Of the proof of TopCosts: The walks of whether a tour may be, and a day. -/
import Derived.Test.YtgimnjldndkalaaGreatDoorF22
import Derived.Test.YtgimnjldndkalaaGreatDoorF19
import Derived.Test.YtgimnjldndkalaaGreatDoorF25
set_option linter.all false
set_option maxHeartbeats 8000000
set_option maxRecDepth 100000
namespace Go.Proofs.YtgimnjldndkalaaGreatDoor
section
open Go.Proofs.Tryz
open Go.RowKit jm ko kN
def JP (x:fS) (A1:Option Addr) (c1:Nat) (A2:Option Addr) (c2:Nat) (D:Value) (t:Tr) (w:World) (s:RL 2 iH w D t) (v:t.length<=1000000):
  Calls prog 220 #[.agg #[x.days,x.mm,x.cap,x.len,.slice A1 x.eB c1,.slice A2 x.gn c2,D]] w (ug w):=by
 have F:=zH s;obtain⟨A,c,rfl,-⟩:=fQ.open_ s;clear s;go_enter func220,ntmps220;go_wp2_with fail;have a:=bL (bS w w) (cB 253 (yX x A1 c1 A2 c2 [.slice A t c]));refine(rD _ t _ (fQ.below F a lE) v).mono ?_;rintro e l ⟨lv,rfl,g,j⟩;have h:=g.slice;rw[fm] at h;obtain⟨Al,cl,rfl,-⟩:=h;have E:=zH g;have d:w.heap.size<=l.heap.size:=eZ a.size j.size;clear g;go_wp2_with fail;refine(zt w _ _ _ (E.mono a.size) (by simpa using v) d).mono ?_;rintro e w3 ⟨b,rfl,f⟩;go_wp2_with fail;go_ret;exact⟨_,rfl,(a.trans (j.mono a.size)).trans f⟩
abbrev VO:List Value:=[.func (.func 219) #[] #[],.int .i64 1,.func (.func 220) #[] #[],.int .i64 11,.func (.func 221) #[] #[],.int .i64 12,.func (.func 222) #[] #[],.int .i64 13]
def Jn (w:World):
  Calls prog 180 #[] w fun e w'=>e=.returned (.slice w 4 4)/\fc w' w 251 VO/\Below w w w':=by
 go_enter func180,ntmps180;go_wp2;go_ret;exact⟨rfl,fc.new _ _ _,bF.alloc lE _⟩
inductive Tn (n:Nat) (t:Tr) (w:World) (e:Ending) (w':World):Prop
 |mk (z:Int) (he:e=.returned (.int .i64 z)) (h:(0<=z/\z<=18)/\(z≠1->VZ n t)) (hb:Below w w w')
def uu (M D:Value) (x:fS) (t:Tr) (w:World) (B:iz w M x) (I:ga x) (s:RL 2 iH w D t) (v:t.length<=1000000):
  Calls prog 134 #[M,.agg #[D]] w (Tn x.eB t w):=by
 obtain⟨A1,c1,A2,c2,rfl⟩:=B.agg;have F:=zH s;obtain⟨A,c,rfl,-⟩:=fQ.open_ s;obtain⟨P,E⟩:=Zb B I;clear B I s;go_enter func134,ntmps134;go_wp2_with fail;refine(Jn _).mono ?_;rintro e w1 ⟨rfl,k,q⟩;have a:Below w w w1:=(bL (bL (bS w w) (cB 25 [x.days,x.mm,x.cap,x.len,.slice A1 x.eB.length c1,.slice A2 x.gn.length c2])) (cB 44 [.slice A t.length c])).trans (q.mono (by simp only[lz];omega));have p:=((fc.new w 25 [x.days,x.mm,x.cap,x.len,.slice A1 x.eB c1,.slice A2 x.gn c2]).alloc (cB 44 [.slice A t c])).below q sO;have n:=(fc.fW (w.alloc (cB 25 [x.days,x.mm,x.cap,x.len,.slice A1 x.eB c1,.slice A2 x.gn c2])) 44 [.slice A t c] (g:=w.heap.size+1) sI).below q sI;simp only[lz] at k|-
 clear q;go_wp2_with fail;go_loopw [9] (fun C wr=> ∃i:Nat,i<=4/\C=.int .i64 i/\Hid (0<i->VZ x.eB t)/\fc wr w 25 [x.days,x.mm,x.cap,x.len,.slice A1 x.eB c1,.slice A2 x.gn c2]/\
  fc wr (w+1) 44 [.slice A t c]/\fc wr (w+1+1) 251 VO/\Below w w wr) (fun C _=>4-(intOf C).toNat)
 case atStart=>exact⟨0,eC _,rfl,(fun h=>absurd h oG),p,n,k,a⟩
 case round=>
  clear a p n k;obtain⟨i,hi,rfl,m,p,n,k,a⟩:=hrel;have y:=p.lt;have z:=n.lt;have G:=k.lt;obtain⟨d0,d1,d2,d3,d4,d5⟩:=p.jI;have e0:=n.c 0;obtain⟨K,r⟩:=Zb (fun o:Obj=>P.below (bL a o) lE) (fun o:Obj=>fQ.below F (bL a o) lE);have J:i=0\/i=1\/i=2\/i=3\/i=4:=oG
  rcases J with rfl|rfl|rfl|rfl|rfl
  all_goals
   have N:=k.c 0;have O:=k.c 1;have Q:=k.c 2;have R:=k.c 3;have S:=k.c 4;have T:=k.c 5;have U:=k.c 6;have V:=k.c 7;go_wp2_with fail
  ·refine(GZ x A1 c1 A2 c2 _ t _ (r _)).mono ?_;rintro e l ⟨b,rfl,u,j⟩;have H:=zH u;clear u;have f:=(bL (bS wr wr) (cB 251 [.func (.func 219) #[] #[],.int .i64 1])).trans (j.mono sI);have L:l.cell? (pA wr 1)=some (.int .i64 1):=((fc.new wr 251 [.func (.func 219) #[] #[],.int .i64 1]).below j sI).cell 1;have d:=a.trans (f.mono a.size);cases b
   ·go_wp2_with fail;go_ret
    exact⟨_,rfl,⟨oG,fun h=>absurd rfl h⟩,d⟩
   ·go_wp2_with fail;go_roundw
    case rel=>exact⟨1,oG,by go_num,(fun _=>H trivial),p.below f y,n.below f z,k.below f G,d⟩
    case measure=>simp[intOf]
  ·refine(JP x A1 c1 A2 c2 _ t _ (r _) v).mono ?_;rintro e l ⟨b,rfl,j⟩;have f:=(bL (bS wr wr) (cB 251 [.func (.func 220) #[] #[],.int .i64 11])).trans (j.mono sI);have L:l.cell? (pA wr 1)=some (.int .i64 11):=((fc.new wr 251 [.func (.func 220) #[] #[],.int .i64 11]).below j sI).cell 1;have d:=a.trans (f.mono a.size);cases b
   ·go_wp2_with fail;go_ret
    exact⟨_,rfl,⟨oG,fun _=>m oG⟩,d⟩
   ·go_wp2_with fail;go_roundw
    case rel=>exact⟨2,oG,by go_num,(fun _=>m oG),p.below f y,n.below f z,k.below f G,d⟩
    case measure=>simp[intOf]
  ·refine(GX x A1 c1 A2 c2 _ t _ (r _)).mono ?_;rintro e l ⟨b,rfl,j⟩;have f:=(bL (bS wr wr) (cB 251 [.func (.func 221) #[] #[],.int .i64 12])).trans (j.mono sI);have L:l.cell? (pA wr 1)=some (.int .i64 12):=((fc.new wr 251 [.func (.func 221) #[] #[],.int .i64 12]).below j sI).cell 1;have d:=a.trans (f.mono a.size);cases b
   ·go_wp2_with fail;go_ret
    exact⟨_,rfl,⟨oG,fun _=>m oG⟩,d⟩
   ·go_wp2_with fail;go_roundw
    case rel=>exact⟨3,oG,by go_num,(fun _=>m oG),p.below f y,n.below f z,k.below f G,d⟩
    case measure=>simp[intOf]
  ·refine(GY x A1 c1 A2 c2 _ t _ (r _) (K _) E v (m oG).1).mono ?_;rintro e l ⟨b,rfl,j⟩;have f:=(bL (bS wr wr) (cB 251 [.func (.func 222) #[] #[],.int .i64 13])).trans (j.mono sI);have L:l.cell? (pA wr 1)=some (.int .i64 13):=((fc.new wr 251 [.func (.func 222) #[] #[],.int .i64 13]).below j sI).cell 1;have d:=a.trans (f.mono a.size);cases b
   ·go_wp2_with fail;go_ret
    exact⟨_,rfl,⟨oG,fun _=>m oG⟩,d⟩
   ·go_wp2_with fail;go_roundw
    case rel=>exact⟨4,oG,by go_num,(fun _=>m oG),p.below f y,n.below f z,k.below f G,d⟩
    case measure=>simp[intOf]
  ·go_ret;exact⟨_,rfl,⟨oG,fun _=>m oG⟩,a⟩
inductive Tm (w:World) (e:Ending) (w':World):Prop
 |mk (z:Int) (he:e=.returned (.int .i64 z)) (hi:0<=z/\z<=18) (hb:Below w w w')
def zY (M W:Value) (x:fS) (d:Dy) (K:Nat) (w:World) (B:iz w M x) (I:ga x) (Q:RL 1 jf w W d) (hk:jS x.eB K d) (hK:K<=1000000):
  Calls prog 87 #[M,.agg #[W]] w (Tm w):=by
 obtain⟨A1,c1,A2,c2,rfl⟩:=B.agg;have HD:=zH Q;obtain⟨A,c,rfl,h1,h2,hc⟩:=iK.open_ Q;obtain⟨P,HC,E,N⟩:=Zd B hc I hk;clear B Q I hk hc;go_enter func87,ntmps87;go_wp2_with fail;go_loopw [11] (fun C wr=> ∃i:Nat,i<=d/\C=.int .i64 i/\
  fc wr w 25 [x.days,x.mm,x.cap,x.len,.slice A1 x.eB c1,.slice A2 x.gn c2]/\fc wr (w+1) 39 [.slice A d c]/\Below w w wr) (fun C _=>d.length-(intOf C).toNat)
 case atStart=>exact⟨0,eC _,rfl,(fc.new w _ _).alloc _,fc.fW _ _ _ sI,bL (bL bF _) _⟩
 case round=>
  obtain⟨i,hi,rfl,p,n,a⟩:=hrel;have H:=p.lt;have G:=n.lt;obtain⟨d0,d1,d2,d3,d4,d5⟩:=p.jI;by_cases S:i<d
  ·obtain⟨t,T⟩:=ec S;obtain⟨b,o,rfl,hb,D,v,y⟩:=HC i _ T;obtain⟨J,aa⟩:=N.get T;obtain⟨A3,c3,rfl,-⟩:=fQ.open_ v;replace y:=a7 a lE y;obtain⟨F,HR⟩:=Zb v J;clear T v J;go_wp2_with fail;have k:=bL (bS wr wr) (cB 44 [.slice A3 t c3]);refine(uu _ _ x t _ (P.below (a.trans (k.mono a.size)) lE) E (fQ.below F (a.trans (k.mono a.size)) lE) oG).mono ?_;rintro e l ⟨z,rfl,⟨V,-⟩,j⟩;have f:=k.trans (j.mono k.size);by_cases U:z=0
   ·subst U;go_wp2_with fail;go_roundw
    case rel=>exact⟨i+1,oG,by go_num,p.below f H,n.below f G,a.trans (f.mono a.size)⟩
    case measure=>exact mI
   ·go_wp2_with fail;go_ret
    exact⟨_,rfl,V,a.trans (f.mono a.size)⟩
  ·obtain rfl:i=d.length:=oG;have e0:=n.c 0;go_wp2_with fail;refine(Bw _ d K _ (iK.below HD a lE) N.wt hK).mono ?_;rintro e l ⟨lv,rfl,g,j⟩;have R:=vB d;have ah:=N.wt;obtain⟨L,X⟩:=nR d.flatten;rw[X] at g R;have m:=zH g.reads;obtain⟨Al,cl,rfl,-⟩:=g.slice;clear g X;go_wp2_with fail;refine(rD _ L _ m oG).mono ?_;rintro e w3 ⟨lv,rfl,g,f⟩;have s:=eZ a.size j.size;have h:=g.slice;rw[fm] at h;obtain⟨Am,cm,rfl,-⟩:=h;have O:=zH g;have af:=eZ s f.size;clear g;go_wp2_with fail;refine(zt l _ _ _ O (by rw[fm];omega) f.size).mono ?_;rintro e w4 ⟨u,rfl,q⟩;have r:Below w w w4:=((a.trans (j.mono a.size)).trans (f.mono s)).trans (q.mono s);have ae:=j.size;have Z:=(((p.below j H).below f oG).below q oG).c 1;have Y:=(((n.below j G).below f oG).below q oG).c 0;cases u
   ·go_wp2_with fail;go_ret
    exact⟨_,rfl,oG,r⟩
   ·by_cases hv:x.mm<(d.length:Int)
    ·go_wp2_with fail;go_ret
     exact⟨_,rfl,oG,r⟩
    ·have ag:(d.length:Int)<=x.mm:=oG;go_wp2_with fail;go_ret;exact⟨_,rfl,oG,r⟩
open Go.RowKit jm ko kN B4
abbrev uo:List Value:=[Zo,Zo,Zo,Zo,(),(),(),(),false,(),Zo,(),()]
def Fq (x:fS) (A1:Option Addr) (c1:Nat) (A2:Option Addr) (c2:Nat) (Ad:Option Addr) (cd:Nat) (d:Dy) (KK:Nat) (w:World) (hx:iz w (.agg (xC x A1 c1 A2 c2).toArray) x) (ho:ga x) (hd:RL 1 jf w (.slice Ad d cd) d)
  (hk:jS x.eB KK d) (dx:KK<=1000000):
  Calls prog 318 #[.agg (xC x A1 c1 A2 c2).toArray,.agg #[.slice Ad d cd]] w (fun e w'=> ∃bZ R fv f lv ev,e=.returned (.agg (nD x A1 c1 A2 c2 Ad d cd bZ R fv f lv ev).toArray)/\vt w' d bZ R fv lv ev/\(∀v∈[bZ,fv,lv,ev],∀g,v.ownBlock=some g->w.heap.size<=g/\g<w'.heap.size)/\Below w w w'):=by
 obtain⟨-,-,aT⟩:True/\True/\ ∀i t,d[i]? =some t-> ∃b o tv,Ad=some ⟨b,o,none⟩/\b<w.heap.size/\RL 2 iH w tv t/\w.cell? (pA b (o+i))=some tv:=by obtain⟨ef,eh,hv,h1,h2,aT⟩:=iK.open_ hd;cases hv;exact⟨trivial,trivial,fun i t ht=>by obtain⟨b,o,h1,h2,tv,h3,h4⟩:=aT i t ht;exact⟨b,o,tv,h1,h2,h3,h4⟩⟩
 obtain⟨HX,HO,HD,HC,HK⟩:=Ze hx ho hd aT hk;have dC:=vB d;have eD:=hk.wt;have aZ:=zH (fun(W:World) (hb:Below w w W)=>Bw _ d KK W (iK.below hd hb lE) hk.wt dx);obtain⟨L,hL⟩:=nR d.flatten;rw[hL] at aZ dC;have aI:=zH (fun(W:World) (lv:Value) (h:RL 2 iH W lv L)=>vi lv L W h oG);obtain⟨H,aP⟩:=nR (qU (L.map Prod.fst));have bG:Hid (qU (oN d)=H):=zH (by rw[<-aP,<-hL];rfl);have dH:H.length<=1000000:=by rw[<-aP,oq,fm];omega
 rw[aP] at aI;clear hx ho hd aT hk hL aP;go_enter func318,ntmps318;go_upto_region 1 with fail
 obtain⟨w1,bU,⟨bx,bd,b4,-⟩,m,-⟩:=sk w [(25,xC x A1 c1 A2 c2),(39,[.slice Ad d cd]),(375,uo)];simp only[Hk] at bU;rw[bU];clear bU
 go_cut [5] from 9 to 15 (fun p wc=> ∃g G J,p=.pointer (pB g)/\w1.heap.size<=g/\fc wc g 375 (nD x A1 c1 A2 c2 Ad d cd (.slice G H J) false () 0 () ())/\Hid (OI w1 wc (.slice G H J) H)/\Below w1 w1 wc)
 case first=>
  have lx:=bx.lt;have ld:=bd.lt;obtain⟨d0,d1,d2,d3,d4,d5⟩:=bx.jI;have e0:=bd.c 0;refine rB [7] fun hS=>?_;refine kL [0,1,2] ?_;refine pU ?_;refine mL 3 6 rfl rfl rfl rfl kR (fun K j=>?_) (fun K j=>?_)
  ·go_simp;refine(aZ _ (m.trans (hS.mono m.size))).mono ?_;rintro e wa ⟨sv,rfl,HS,aS⟩;have hS:=hS.trans (aS.mono hS.size);obtain⟨As,cs,rfl,-⟩:=HS.slice;have aJ:=zH HS.reads;clear HS;refine j _ _ (hS) ?_;refine pU ?_;refine mL 4 6 rfl rfl rfl rfl kR (fun K j=>?_) (fun K j=>?_)
   ·go_simp;refine(aI _ _ (aJ)).mono ?_;rintro e wb ⟨ov,rfl,B,aa⟩;have C:=zH (OI.mono B hS.size);have hS:=hS.trans (aa.mono hS.size);obtain⟨G,J,rfl,-⟩:=B.slice;clear B;refine j _ _ (hS) ?_;refine kL [5] ?_;refine tO 6 fun K j=>?_;go_simp;have h6:=hS.alloc hS.size (cB 375 uo);refine j _ _ (h6) ?_;refine tL 7 fun K j=>?_;refine gY _ 375 (.tmp 5) (.tmp 14) rfl wb 375 uo (nD x A1 c1 A2 c2 Ad d cd (.slice G H J) false () 0 () ()) (fc.new wb _ uo) rfl rfl uq rfl rfl ?_;intro w9 b9 A bY;refine j _ _ ?_;refine tD ?_;go_wp2_with fail;go_meet;exact⟨_,G,J,rfl,hS.size,b9,(oT (C.alloc _) (fc.new wb _ uo) dE A),(h6.grown A h6.size (fun q hq=>by cases hq;exact hS.size))⟩
   ·go_simp;have h6:=hS.alloc hS.size (cB 375 uo);have hw:=hS.size;have b6:=fc.new wa 375 uo;refine j _ _ (h6) ?_;have hS:=h6;refine tO 4 fun K j=>?_;go_simp;refine(aI _ _ (fQ.below aJ (bL bF _) lE)).mono ?_;rintro e wb ⟨ov,rfl,B,aa⟩;have C:=zH (OI.mono B hS.size);have hS:=hS.trans (aa.mono hS.size);obtain⟨G,J,rfl,-⟩:=B.slice;clear B;refine j _ _ (hS) ?_;replace b6:=b6.below aa sI;refine kL [5] ?_;refine tL 7 fun K j=>?_;refine gY _ 375 (.tmp 5) (.tmp 14) rfl wa 375 uo (nD x A1 c1 A2 c2 Ad d cd (.slice G H J) false () 0 () ()) (b6) rfl rfl uq rfl rfl ?_;intro w9 b9 A bY;refine j _ _ ?_;refine tD ?_;go_wp2_with fail;go_meet;exact⟨_,G,J,rfl,hw,b9,(oT C b6 dE A),(hS.grown A hS.size (fun q hq=>by cases hq;exact hw))⟩
  ·go_simp;have h6:=hS.alloc hS.size (cB 375 uo);have hw:=hS.size;have b6:=fc.new w1.drew 375 uo;refine j _ _ (h6) ?_;have hS:=h6;refine tO 3 fun K j=>?_;go_simp;refine(aZ _ (m.trans (hS.mono m.size))).mono ?_;rintro e wa ⟨sv,rfl,HS,aS⟩;have hS:=hS.trans (aS.mono hS.size);obtain⟨As,cs,rfl,-⟩:=HS.slice;have aJ:=zH HS.reads;clear HS;refine j _ _ (hS) ?_;replace b6:=b6.below aS sI;refine tO 4 fun K j=>?_;go_simp;refine(aI _ _ (aJ)).mono ?_;rintro e wb ⟨ov,rfl,B,aa⟩;have C:=zH (OI.mono B hS.size);have hS:=hS.trans (aa.mono hS.size);obtain⟨G,J,rfl,-⟩:=B.slice;clear B;refine j _ _ (hS) ?_;replace b6:=b6.below aa b6.lt;refine kL [5] ?_;refine tL 7 fun K j=>?_;refine gY _ 375 (.tmp 5) (.tmp 14) rfl w1 375 uo (nD x A1 c1 A2 c2 Ad d cd (.slice G H J) false () 0 () ()) (b6) rfl rfl uq rfl rfl ?_;intro w9 b9 A bY;refine j _ _ ?_;refine tD ?_;go_wp2_with fail;go_meet;exact⟨_,G,J,rfl,lE,b9,(oT C b6 dE A),(hS.grown A hS.size (fun q hq=>by cases hq;exact lE))⟩
 case rest=>
  obtain⟨g,G,J,rfl,hg,s,C,bI⟩:=hcut;have lx:=bx.lt;have ld:=bd.lt;have c7:=s.c 7;go_wp2_with fail;refine(yJ _ H _ C.reads dH).mono ?_;rintro e w2 ⟨R,rfl,cX,aR⟩;have dj:=zH cX;have aA:=bI.trans (aR.mono bI.size);replace s:=s.below aR s.lt;replace C:=zH (C.below aR lE);have cH:=bx.below aA lx;have cF:=bd.below aA ld;have cD:=b4.below aA b4.lt;have cZ:=s.lt;have f8:=s.frozen 8;have c8:=s.c 8;clear cX aR bI c7;have en:=aA.size;go_upto_region 3 with fail
  have aL:fc (w2.setCell (pA g 8) R) g 375 (nD x A1 c1 A2 c2 Ad d cd (.slice G H J) R () 0 () ()):=s.gH 8 R;have aj:=C.vo s dE (q:=(pA g 8)) rfl R;have aM:=cH.kj (p:=pA g 8) dO R;have aD:=cF.kj (p:=pA g 8) dO R;have aK:=cD.kj (p:=pA g 8) (by show w.heap.size+1+1≠g;have:=b4.lt;omega) R;have ai:Below w1 w1 (w2.setCell (pA g 8) R):=aA.setCell (p:=pA g 8) hg _;revert aL aj aM aD aK ai;generalize w2.setCell (pA g 8) R=w3;intro aL aj aM aD aK ai;have aU:=zH aj;clear aj s cH cF cD aA C f8 c8 bx bd;have eo:=b4.lt;have e3:=aD.c 0;go_wp2_with fail;clear e3;go_loopw [22] (fun iv wr=> ∃(i:Nat) (f:Int) (fv lv ev:Value) (F M E:List Int),i<=d/\iv=.int .i64 i/\fc wr w 25 (xC x A1 c1 A2 c2)/\fc wr (w+1) 39 [.slice Ad d cd]/\fc wr (w+1+1) 375 uo/\
   fc wr g 375 (nD x A1 c1 A2 c2 Ad d cd (.slice G H J) R fv f lv ev)/\Hid (OE w1 wr fv F)/\F.length=i/\Hid (xA w1 wr (.slice G H J) lv ev H M E)/\M.length=i/\E.length=i/\Below w1 w1 wr) (fun iv _=>d.length-(intOf iv).toNat)
  case atStart=>exact⟨0,0,_,_,_,[],[],[],eC _,rfl,aM,aD,aK,aL,(OE.jL _ _),rfl,zH ⟨aU,OI.jL _ _,OI.jL _ _,(FK.nil _).symm,(FK.nil _).symm,FK.nil _⟩,rfl,rfl,ai⟩
  case round=>
   clear aL aM aD aK ai aU;obtain⟨i,f,fv,lv,ev,F,M,E,hi,rfl,bx,bd,D,s,HF,hF,c,hM,hE,bJ⟩:=hrel;have cZ:=s.lt;have eH:=bx.lt;have eF:=bd.lt;have n:=m.trans (bJ.mono m.size);have dI:=bJ.size;by_cases dF:i<d
   ·obtain⟨t,hz⟩:=ec dF;obtain⟨bt,ot,tv,rfl,dB,bO,y⟩:=HC i _ hz;obtain⟨cU,eA⟩:=HK.get hz;obtain⟨At,ct,rfl,-⟩:=fQ.open_ bO;obtain⟨HT,HR⟩:=Zb bO cU;replace y:=a7 n lE y;have dY:=bP dB n.size;obtain⟨d0,d1,d2,d3,d4,d5⟩:=bx.jI;clear hz bO cU;go_wp2_with fail;have aQ:=bL (bS wr wr) (cB 44 [.slice At t ct]);refine(uu _ _ x t _ (HX.below (n.trans (aQ.mono n.size)) lE) HO (fQ.below HT (n.trans (aQ.mono n.size)) lE) oG).mono ?_;rintro e w4 ⟨z,rfl,-,aX⟩;have V:=aQ.trans (aX.mono aQ.size);have ay:=(fc.new wr 44 [.slice At t ct]).below aX sI;replace bx:=bx.below V oG;replace bd:=bd.below V oG;replace D:=D.below V oG;replace s:=s.below V cZ;replace HF:=zH (HF.below V lE);replace c:=zH (c.below V lE);have Y:=bJ.trans (V.mono dI);have ez:=V.size;have eG:=ay.lt;have eu:=HK.len;have dw:F.length<=1000000000:=oG;have dz:M.length<=1000000000:=oG;have dt:E.length<=1000000000:=oG;obtain⟨bB,bE,bh⟩:=Zc hF hM hE;have c10:=s.c 10;have cJ:=s.frozen 10;have eE:=s.lt;clear hF hM hE;by_cases dK:z=0
    case' pos=>
     subst dK;go_upto_region 9 with fail
     obtain⟨w5,dJ⟩:=nE (w4:World);subst dJ
    case' neg=>
     go_upto_region 9 with fail
     have dp:fc (w4.setCell (pA g 10) (wrap64 (f+1))) g 375 (nD x A1 c1 A2 c2 (pA bt ot) d cd (.slice G H J) R fv (wrap64 (f+1)) lv ev):=s.gH 10 _;have aN:=HF.vo s dE (q:=(pA g 10)) rfl (wrap64 (f+1));have aq:=c.vo s dE (q:=(pA g 10)) rfl (wrap64 (f+1));have dr:=bx.kj (p:=pA g 10) dO (wrap64 (f+1));have dn:=bd.kj (p:=pA g 10) dO (wrap64 (f+1));have dm:=D.kj (p:=pA g 10) dO (wrap64 (f+1));have dq:=ay.kj (p:=pA g 10) dO (wrap64 (f+1));have dA:Below w1 w1 (w4.setCell (pA g 10) (wrap64 (f+1))):=Y.setCell (p:=pA g 10) hg _;revert dp aN aq dr dn dm dq dA;generalize w4.setCell (pA g 10) (wrap64 (f+1))=w5;clear s bx bd D ay Y;generalize wrap64 (f+1)=f;intro s aN aq bx bd D ay Y;replace HF:=zH aN;replace c:=zH aq;clear aN aq
    all_goals
     have c9:=s.c 9;have dN:=s.lt;have dS:=bx.lt;obtain⟨Af,cf,rfl,-⟩:=HF.slice;have cK:=Y.size;go_wp2_with (at_builtin;refine Tp _ rfl (.tmp 36) (.tmp 38) rfl w1 _ F HF rfl _ rfl rfl dw cK ?_;intro gF k w6 cT ew dD Z dL;have q6:=Z.ig s dE;have f6:=q6.frozen 9;have c6:w6.cell? (pA g 9)=some (.slice Af F cf):=q6.cell 9);have aw:fc (w6.setCell (pA g 9) (.slice gF (F+1) k)) g 375 (nD x A1 c1 A2 c2 (pA bt ot) d cd (.slice G H J) R (.slice gF (F+1) k) f lv ev):=q6.gH 9 _;have aO:=cT.vo q6 dE (q:=(pA g 9)) rfl (.slice gF (F+1) k);have P:=(c.keep Z dE).vo q6 dE (q:=(pA g 9)) rfl (.slice gF (F+1) k);have aF:=(Z.ig bx dE).kj (p:=pA g 9) dO (.slice gF (F+1) k);have aE:=(Z.ig bd dE).kj (p:=pA g 9) dO (.slice gF (F+1) k);have aC:=(Z.ig D dE).kj (p:=pA g 9) dO (.slice gF (F+1) k);have az:=(Z.ig ay dE).kj (p:=pA g 9) dO (.slice gF (F+1) k);have aG:Below w1 w1 (w6.setCell (pA g 9) (.slice gF (F+1) k)):=(Y.trans (Z.below cK)).setCell (p:=pA g 9) hg _;revert aw aO P aF aE aC az aG;generalize w6.setCell (pA g 9) (.slice gF (F+1) k)=w7;intro aw aO P aF aE aC az aG;obtain⟨cA,bH⟩:=Zb aO P;obtain⟨Am,cm,rfl,-⟩:=P.hb.slice;obtain⟨Ae,ce,rfl,-⟩:=P.hl.slice;clear aO P q6 f6 c6 cT Z dL dD s bx bd D ay HF c c9 dN dS;have dQ:=aw.lt;have dU:=aF.lt;have dP:=aE.lt;have dM:=aC.lt;have dR:=az.lt;have bW:=m.trans (aG.mono m.size);have dG:=aG.size;have c11:=aw.c 11;have t0:=az.c 0;refine rB [5,6,7] fun hS=>?_;refine kL [0,1,2] ?_;refine tO 3 fun K j=>?_;go_simp;refine(C4 _ t _ (fQ.below HT (bW.trans (hS.mono bW.size)) lE)).mono ?_;rintro e w8 ⟨zl,rfl,cP⟩;have U:=hS.trans (cP.mono hS.size);refine j _ _ (U) ?_;refine tO 4 fun K j=>?_;go_simp;have bz:=fc.new w8 3 [zl];have a:=U.alloc U.size (cB 3 [Value.int .i64 zl]);refine j _ _ (a) ?_;have aW:=a.size;refine tL 5 fun K j=>?_;refine qj _ (.tmp 42) (.tmp 45) rfl w1 _ M (bH.hb.below a lE) rfl zl rfl bz dz oG ?_;intro gM r cj aY O cQ u;have aB:=u.ig (aw.below a dQ) dE;have cJ:=aB.frozen 11;have cI:=aB.c 11;refine j _ _ ?_;refine tL 6 fun K j=>?_;go_simp;refine j _ _ ?_;refine tL 7 fun K j=>?_;go_simp;refine j _ _ ?_;refine tD ?_;go_upto_region 11 with fail
     have T9:=bH.below a lE;have o1:=O _ H T9.hf T9.d1;have o2:=O _ E T9.hl T9.d3.symm;have Q:=(xA.mk o1.1 aY o2.1 o1.2 T9.d2 o2.2.symm).vo aB dE (q:=(pA g 11)) rfl (.slice gM (M+1) r);have ah:=((cA.below a lE).keep u dE).vo aB dE (q:=(pA g 11)) rfl (.slice gM (M+1) r);have S:fc (cj.setCell (pA g 11) (.slice gM (M+1) r)) g 375 (nD x A1 c1 A2 c2 (pA bt ot) d cd (.slice G H J) R (.slice gF (F+1) k) f (.slice gM (M+1) r) (.slice Ae E ce)):=aB.gH 11 _;have T:=(u.ig (aF.below a dU) dE).kj (p:=pA g 11) dO (.slice gM (M+1) r);have af:=(u.ig (aE.below a dP) dE).kj (p:=pA g 11) dO (.slice gM (M+1) r);have ae:=(u.ig (aC.below a dM) dE).kj (p:=pA g 11) dO (.slice gM (M+1) r);have ag:=(u.ig (az.below a dR) dE).kj (p:=pA g 11) dO (.slice gM (M+1) r);have X:Below w1 w1 (cj.setCell (pA g 11) (.slice gM (M+1) r)):=((aG.trans (a.mono dG)).trans (u.below oG)).setCell (p:=pA g 11) hg _;revert S ah Q T af ae ag X;generalize cj.setCell (pA g 11) (.slice gM (M+1) r)=eJ;intro Q ah S T af ae ag X;clear T9 o1 o2 aB cJ cI O aY cQ u bz a U cP aw aF aE aC az cA bH aW hS c11 t0 bW;obtain⟨cw,aV⟩:=Zb ah Q;clear ah Q;have dh:=S.lt;have di:=T.lt;have dg:=af.lt;have cY:=ae.lt;have dZ:=ag.lt;have ak:=m.trans (X.mono m.size);have cV:=X.size;have c12:=S.c 12;have eI:=ag.c 0;obtain⟨d0,d1,d2,d3,d4,d5⟩:=T.jI;refine rB [6,7,8] fun hS=>?_;refine kL [0,1,2,3] ?_;refine tO 4 fun K j=>?_;go_simp;refine(qE _ _ x t _ (HX.below (ak.trans (hS.mono ak.size)) lE) HO (fQ.below HT (ak.trans (hS.mono ak.size)) lE) oG HR).mono ?_;rintro e dV ⟨rfl,cN⟩;generalize Mc x.gn (t.map Prod.fst)=zl;have U:=hS.trans (cN.mono hS.size);refine j _ _ (U) ?_;refine tO 5 fun K j=>?_;go_simp;have bz:=fc.new dV 3 [zl];have a:=U.alloc U.size (cB 3 [Value.int .i64 zl]);refine j _ _ (a) ?_;have aW:=a.size;refine tL 6 fun K j=>?_;refine qj _ (.tmp 49) (.tmp 53) rfl w1 _ E (aV.hl.below a lE) rfl zl rfl bz dt oG ?_;intro gE I dW cR O cQ N;have aH:=N.ig (S.below a dh) dE;have ek:=aH.frozen 12;have dX:=aH.c 12;refine j _ _ ?_;refine tL 7 fun K j=>?_;go_simp;refine j _ _ ?_;refine tL 8 fun K j=>?_;go_simp;refine j _ _ ?_;refine tD ?_;have T9:=aV.below a lE;have o1:=O _ H T9.hf T9.d2;have o2:=O _ (M++_) T9.hb T9.d3;obtain⟨cg,cM⟩:=Zb ((xA.mk o1.1 o2.1 cR T9.d1 o1.2 o2.2).vo aH dE (q:=(pA g 12)) rfl (.slice gE (E+1) I)) (((cw.below a lE).keep N dE).vo aH dE (q:=(pA g 12)) rfl (.slice gE (E+1) I));have cO:Below w1 w1 (dW.setCell (pA g 12) (.slice gE (E+1) I)):=((X.trans (a.mono cV)).trans (N.below oG)).setCell (p:=pA g 12) hg _;have cG:=(N.ig (T.below a di) dE).kj (p:=pA g 12) dO (.slice gE (E+1) I);have cE:=(N.ig (af.below a dg) dE).kj (p:=pA g 12) dO (.slice gE (E+1) I);have cC:=(N.ig (ae.below a cY) dE).kj (p:=pA g 12) dO (.slice gE (E+1) I);go_wp2_with fail;go_roundw
     case rel=>exact⟨i+1,f,_,_,_,_,_,_,oG,by go_num,cG,cE,cC,aH.gH 12 _,cM,by simp[bB.out],cg,by simp[bE.out],by simp[bh.out],cO⟩
     case measure=>exact mI
   ·obtain rfl:i=d.length:=oG;obtain⟨bB,bE,bh⟩:=Zc hF hM hE;obtain⟨Af,cf,rfl,-⟩:=HF.slice;obtain⟨Am,cm,rfl,-⟩:=c.hb.slice;obtain⟨Ae,ce,rfl,-⟩:=c.hl.slice;clear hF hM hE;have l4:=D.lt;go_wp2_with (first
     |(refine mJ _ rfl 375 (.tmp 5) rfl g 375 _ _ rfl s underlying375 rfl uq ?_)
     |(refine fH _ rfl 375 (.tmp 4) (.tmp 57) rfl (w+1+1) 375 uo (nD x A1 c1 A2 c2 Ad d cd (.slice G H J) R (.slice Af F cf) f (.slice Am M cm) (.slice Ae E ce)) D rfl rfl uq rfl rfl ?_;intro w9 b9 A bY))
    have k1: ∀{v:Value} {l:List Int},OI w1 wr v l->OI w1 w9 v l:=fun h=>oT h D dE A;have k2:OE w1 w9 (.slice Af F cf) F:=oT HF D dE A;refine bodyPost_ret (v:=.agg (nD x A1 c1 A2 c2 Ad d cd (.slice G H J) R (.slice Af F cf) f (.slice Am M cm) (.slice Ae E ce)).toArray) (ia rfl _ _ (w+1+1) 375 _ _ rfl b9 underlying375 rfl uq) rfl ⟨_,_,_,_,_,_,rfl,?_,?_,n.grown A n.size (fun q hq=>by cases hq;omega)⟩
    ·have hn:R=false->(oN d).Nodup:=fun e=>by have h1:=IV (by rw[<-bG.out];exact uU _) (dj e);rw[<-bG.out] at h1;exact(yi _).nodup_iff.1 h1
     exact⟨hn,by rw[bG.out];exact(k1 c.hf).reads,⟨F,k2.reads,bB⟩,⟨M,(k1 c.hb).reads,bE⟩,⟨E,(k1 c.hl).reads,bh⟩⟩
    ·have ey:=m.size;intro v hv b hb;have q:w1.heap.size<=b/\b<w9.heap.size:=by
      simp only[fC,iy,or_false] at hv
      rcases hv with rfl|rfl|rfl|rfl
      ·exact iB (k1 c.hf) b hb
      ·exact k2.lt b hb
      ·exact iB (k1 c.hb) b hb
      ·exact iB (k1 c.hl) b hb
     omega
end
section
open Go.Proofs.Tryz
open Go.RowKit Go.Shelf jm ko kN B4
theorem C9{p:Prop}(h:p:=by
 intro wS hSw
 (try dsimp only at hSw)
 obtain⟨hSc,hSf⟩:=xi hSw;go_simp;try with_reducible rfl):p:=h
theorem Rn{p:Prop}(h:p:=by
 refine wpIn_wide.2 ?_
 go_quiet (fail)
 gi_wp2;go_ret;obtain⟨h1,h2,h3⟩:=HJ1.out _ (below_drewN hbel _) (by show _<=w1.heap.size;omega);exact⟨rfl,s,O1,h1,(fun b hb=>by rw[HO1.out];exact .inl hb),by omega,h2,h3⟩):p:=h
attribute [local go_sem] iO
theorem JV (n0 kb sb:Nat) (w0:World) (x:fS) (A1:Option Addr) (c1:Nat) (A2:Option Addr) (c2:Nat) (Ad:Option Addr) (cd:Nat) (d:Dy) (onv:Value) (tw:Bool) (fv:Value) (bad:Int) (lv ev:Value) (z q:Int) (KK:Nat)
  (hx:iz w0 (.agg (xC x A1 c1 A2 c2).toArray) x) (ho:ga x) (hd:RL 1 jf w0 (.slice Ad d.length cd) d) (hk:jS x.eB.length KK d) (hKK:KK<=1000000) (hn0:n0=w0.heap.size)
  (hs:xd x.eB.length (z,q)) (hnd:(oN d).Nodup) (hnin:z∉oN d)
  (n l:Nat) (hn:1<=n) (J:Jt) (hJ:Ms J) (hY:Kg prog l n0 (Sd x.eB.length d (z,q)) J) (s:Nat) (O:Nat->Prop) (W:World) (hSt:mi n0 kb sb w0 x A1 c1 A2 c2 Ad cd d onv tw fv bad lv ev z q O W) (h0:J s O W)
  (k:Nat) (t:Tr) (hkt:d[k]? =some t) (hsk:s+t.length<=yw d):
  CallsIn Fence.wide n prog 339 #[.agg (nD x A1 c1 A2 c2 Ad d.length cd onv tw fv bad lv ev).toArray,.int .i64 (k:Int),.agg #[.int .i64 z,.int .i64 q],.func (.yield l) #[] #[]] W
   fun e W'=>e=.returned (.bool true)/\ ∃s' O',J s' O' W'/\(∀b,O b->O' b)/\s'<=s+(t.length+1)/\mi n0 kb sb w0 x A1 c1 A2 c2 Ad cd d onv tw fv bad lv ev z q O' W'/\ ∀b,O b->W'.heap[b]? =W.heap[b]? :=by
 obtain⟨F,hF,hFl⟩:=hSt.r.f;obtain⟨M,hM,hMl⟩:=hSt.r.l;obtain⟨E,hE,hEl⟩:=hSt.r.e;have hkl:=fP hkt;have hkF:k<F.length:=by omega
 have hkM:k<M.length:=by omega
 have hkE:k<E.length:=by omega
 obtain⟨Af,cf,rfl,hf1,hf2,hfc⟩:=gx.open_ hF;obtain⟨f,hfk⟩:=ec (l:=F) (i:=k) (by omega);obtain⟨bf,of,rfl,hbf,yf⟩:=hfc k f hfk;obtain⟨Am,cm,rfl,hm1,hm2,hmc⟩:=gx.open_ hM;obtain⟨ml,hmk⟩:=ec (l:=M) (i:=k) (by omega);obtain⟨bm,om,rfl,hbm,ym⟩:=hmc k ml hmk;obtain⟨Ae,ce,rfl,he1,he2,hec⟩:=gx.open_ hE;obtain⟨el,hek⟩:=ec (l:=E) (i:=k) (by omega);obtain⟨be,oe,rfl,hbe,ye⟩:=hec k el hek;obtain⟨Ad',cd',hv,hd1,hd2,hdc⟩:=iK.open_ hd;cases hv;obtain⟨bt,ot,rfl,hbt,tv,htv,yt⟩:=hdc k t hkt;obtain⟨At,ct,rfl,ht1,ht2,hct⟩:=fQ.open_ htv;have HCT:=jA hct;have HSt:=jA hSt;have hW0:=hSt.bl.size;have hWn:n0<=W.heap.size:=by omega
 have HB0:=jA hSt.bl;have yt0:=a7 hSt.bl (by omega) yt;have hbt0:=bP hbt hW0;obtain⟨O1,hO1⟩: ∃O1:Nat->Prop,O1=fun b=>O b\/W.heap.size<=b/\b<W.heap.size+2:=⟨_,rfl⟩;have HO1:=jA hO1;have HJ:=jA hJ;have HY:=jA hY;have hlO:=hSt.lt;have HJ1:Hid (∀W',Below W.heap.size W W'->W.heap.size+2<=W'.heap.size->J s O1 W'/\mi n0 kb sb w0 x A1 c1 A2 c2 (some ⟨bt,ot,none⟩) cd d onv tw (.slice (some ⟨bf,of,none⟩) F.length cf) bad (.slice (some ⟨bm,om,none⟩) M.length cm) (.slice (some ⟨be,oe,none⟩) E.length ce) z q O1 W'/\ ∀b,O b->W'.heap[b]? =W.heap[b]?):=
  jA (fun W' hb h2=>by
   subst hO1;refine⟨hJ s O _ W W' h0 (gI.ke hb) (fun b hb'=> ?_),((hSt.below hb hWn).more (fun b h=>.inl h) (fun b hb'=> ?_)),fun b hb'=>hb.block b (hlO b hb')⟩
   ·rcases hb' with h|h
    ·exact⟨.inl h,by have:=hlO b h;have:=hb.size;omega⟩
    ·exact⟨.inr h.1,by omega⟩
   ·rcases hb' with h|h
    ·have:=hlO b h;have:=hb.size;omega
    ·omega)
 have hz0:=hs.1;have HS:=jA hs;have HND:=jA hnd;have HNIN:=jA hnin;have HX:=jA hx;have HFL:=jA hFl;have HML:=jA hMl;have HEL:=jA hEl;have HKT:=jA hkt;have htl:=(hk.get hkt).2;have HN0:=jA hn0;have hx6:=ho.head;have hzw:wrap64 (z+1)=z+1:=qO _ (by omega);clear hx ho hd hk hs hnd hnin hJ hY hSt hF hM hE hfc hmc hec hdc hkt hfk hmk hek htv hct hO1 hFl hMl hEl h0 yt hlO hn0 hW0 hx6;refine callsIn_of_wp func339 rfl trivial ?_ rfl;simp only[ntmps339,gU,ff,fZ,Nat.reduceAdd,Nat.reduceSub,iq,ir,iX,iA,gQ,fY];have b4:=(fc.new W 375 (nD x A1 c1 A2 c2 (some ⟨bt,ot,none⟩) d.length cd onv tw (.slice (some ⟨bf,of,none⟩) F.length cf) bad (.slice (some ⟨bm,om,none⟩) M.length cm) (.slice (some ⟨be,oe,none⟩) E.length ce))).alloc (.cells #[.int .i64 z,.int .i64 q] 84);have b6:=fc.fW (W.alloc (.cells (nD x A1 c1 A2 c2 (some ⟨bt,ot,none⟩) d.length cd onv tw (.slice (some ⟨bf,of,none⟩) F.length cf) bad (.slice (some ⟨bm,om,none⟩) M.length cm) (.slice (some ⟨be,oe,none⟩) E.length ce)).toArray 375)) 84 [.int .i64 z,.int .i64 q] (g:=W.heap.size+1) (by simp);have hbel:=bL (bL (bS W.heap.size W) (.cells (nD x A1 c1 A2 c2 (some ⟨bt,ot,none⟩) d.length cd onv tw (.slice (some ⟨bf,of,none⟩) F.length cf) bad (.slice (some ⟨bm,om,none⟩) M.length cm) (.slice (some ⟨be,oe,none⟩) E.length ce)).toArray 375)) (.cells #[.int .i64 z,.int .i64 q] 84)
 gi_upto_if 23 with fail
 revert b4 b6 hbel;generalize (W.alloc (.cells (nD x A1 c1 A2 c2 (some ⟨bt,ot,none⟩) d.length cd onv tw (.slice (some ⟨bf,of,none⟩) F.length cf) bad (.slice (some ⟨bm,om,none⟩) M.length cm) (.slice (some ⟨be,oe,none⟩) E.length ce)).toArray 375)).alloc (.cells #[.int .i64 z,.int .i64 q] 84)=w1;intro b4 b6 hbel
 gi_cut [9] from 16 (fun s9 wc=> ∃oth,s9=.int .i64 oth/\w1=wc)
 case first=>
  by_cases hf13:f=13;all_goals
   try subst hf13
   gi_wp2_with fail;gi_meet
   exact⟨_,rfl,rfl⟩
 case rest=>
  obtain⟨oth,rfl,rfl⟩:=hcut
  gi_upto_region 4 with fail
  have l4:=b4.lt;have l6:=b6.lt;have HH:=jA (HJ1.out w1 hbel (by omega));have k0:=b4.c 6;have k2:=b4.c 2;have k3:=b4.c 3;have k11:=b4.c 11;have k12:=b4.c 12;have s0:=b6.c 0;have s1:=b6.c 1;have ym1:=a7 hbel (by omega) ym;have yt1:=a7 hbel (by omega) yt0;have hw1:=hbel.size;by_cases g1:0<oth
  ·exact Rn
  ·have g1':oth<=0:=by omega
   by_cases g2:x.cap<wrap64 (ml+q)
   ·exact Rn
   ·refine wpIn_wide.2 ?_
    go_quiet (fail)
    gi_wp2;refine wpIn_wide.2 ?_
    go_quiet (fail)
    gi_wp2;gi_loopw [55] (fun iv wr=> ∃(i s1:Nat),i<=t.length+1/\iv=.int .i64 i/\Hid (J s1 O1 wr)/\s1<=s+i/\Hid (mi n0 kb sb w0 x A1 c1 A2 c2 (some ⟨bt,ot,none⟩) cd d onv tw (.slice (some ⟨bf,of,none⟩) F.length cf) bad (.slice (some ⟨bm,om,none⟩) M.length cm) (.slice (some ⟨be,oe,none⟩) E.length ce) z q O1 wr)/\
     fc wr W.heap.size 375 (nD x A1 c1 A2 c2 (some ⟨bt,ot,none⟩) d.length cd onv tw (.slice (some ⟨bf,of,none⟩) F.length cf) bad (.slice (some ⟨bm,om,none⟩) M.length cm) (.slice (some ⟨be,oe,none⟩) E.length ce))/\fc wr (W.heap.size+1) 84 [.int .i64 z,.int .i64 q]/\
     Hid (∀b,O b->wr.heap[b]? =W.heap[b]?)) (fun iv _=>t.length+1-(intOf iv).toNat)
    case atStart=>obtain⟨h1,h2,h3⟩:=HJ1.out _ (below_drewN hbel _) (by show _<=w1.heap.size;omega);exact⟨0,s,by omega,rfl,jA h1,by omega,jA h2,b4,b6,jA h3⟩
    case round=>
     clear b4 b6 hbel k0 k2 k3 k11 k12 s0 s1 ym1 yt1;obtain⟨i,s1,hi,rfl,HJs,hs1,HSs,b4,b6,HKs⟩:=hrel;have l4:=b4.lt;have l6:=b6.lt;have hw0:=HSs.out.bl;have hw0s:=hw0.size;by_cases hlt:i<t.length+1
     ·have YA:Hid (0<i-> ∃bs os p,At=some ⟨bs,os,none⟩/\bs<wr.heap.size/\wr.cell? ⟨bs,os+(i-1)*2,none⟩=some (.int .i64 p)):=jA (fun h0=>by obtain⟨⟨p,r⟩,hp⟩:=ec (l:=t) (i:=i-1) (by omega);obtain⟨b8,o8,e8,h8,y8,-⟩:=HCT.out (i-1) _ hp;exact⟨b8,o8,p,e8,by omega,a7 hw0 (by have:=HN0.out;omega) y8⟩);have YB:Hid (i<t.length-> ∃bs os p,At=some ⟨bs,os,none⟩/\bs<wr.heap.size/\wr.cell? ⟨bs,os+i*2,none⟩=some (.int .i64 p)):=jA (fun h0=>by obtain⟨⟨p,r⟩,hp⟩:=ec (l:=t) (i:=i) h0;obtain⟨b8,o8,e8,h8,y8,-⟩:=HCT.out i _ hp;exact⟨b8,o8,p,e8,by omega,a7 hw0 (by have:=HN0.out;omega) y8⟩);have e1:wrap64 ((i:Int)-1)=((i-1:Nat):Int)\/i=0:=by
       rcases kV i with h|h
       ·exact .inr h
       ·left;rw[show(i:Int)-1=((i-1:Nat):Int) by omega];exact qO _ (by omega)
      have d0:=b4.c 0;have d1:=b4.c 1;have d2:=b4.c 2;have d3:=b4.c 3;have d4:=b4.c 4;have d5:=b4.c 5
      gi_upto_if 59 with fail
      gi_cut [13] from 60 (fun s13 wc=> ∃v,s13=.int .i64 v/\wr=wc)
      case first=>
       by_cases hi1:0<i
       ·replace e1:=e1.resolve_right (Nat.ne_of_gt hi1);obtain⟨bs,os,pa,rfl,hbs,ya⟩:=YA.out hi1;gi_wp2_with fail;gi_meet;exact⟨_,rfl,rfl⟩
       ·gi_wp2_with fail;gi_meet
        exact⟨_,rfl,rfl⟩
      case rest=>
       obtain⟨va,rfl,rfl⟩:=hcut
       gi_upto_if 70 with fail
       gi_cut [14] from 71 (fun s14 wc=> ∃v,s14=.int .i64 v/\wr=wc)
       case first=>
        by_cases hit:i<t.length
        ·obtain⟨bs,os,pb,rfl,hbs,yb⟩:=YB.out hit;gi_wp2_with fail;gi_meet;exact⟨_,rfl,rfl⟩
        ·gi_wp2_with fail;gi_meet
         exact⟨_,rfl,rfl⟩
       case rest=>
        obtain⟨vb,rfl,rfl⟩:=hcut;gi_wp2;have hn0w:w0.heap.size<=wr.heap.size:=by have:=HN0.out;omega
        have hxw:Below w0.heap.size w0 wr:=by have:=hw0;rw[HN0.out] at this;exact this
        refine wpIn_wide.2 ?_;refine rB [] fun hS=> ?_;refine tk 0 hS ?_;refine tk 1 hS ?_;refine tk 2 hS ?_;refine tk 3 hS ?_;refine tk 5 hS ?_;refine tk 6 hS ?_;refine tk 7 hS ?_;refine tk 8 hS ?_;refine tk 11 hS ?_;refine tk 12 hS ?_;refine tk 13 hS ?_;refine tk 14 hS ?_;refine tO 4 fun K hK=> ?_;go_simp;refine(pk _ x _ _ _ (HX.out.below (hxw.trans (hS.mono hn0w)) (ij _))).mono ?_;rintro e w5 ⟨rfl,hb5⟩;generalize sm x.gn _ _=v1;have hS5:=hS.trans (hb5.mono hS.size);refine hK.out _ _ (hS5) ?_;clear hK K;refine tO 9 fun K hK=> ?_;go_simp;refine(pk _ x _ _ _ (HX.out.below (hxw.trans (hS5.mono hn0w)) (ij _))).mono ?_;rintro e w6 ⟨rfl,hb6⟩;generalize sm x.gn _ _=v2;have hS6:=hS5.trans (hb6.mono hS5.size);refine hK.out _ _ (hS6) ?_;clear hK K;have hS:=hS6;refine tk 10 hS ?_;refine tO 15 fun K hK=> ?_;go_simp;refine(pk _ x _ _ _ (HX.out.below (hxw.trans (hS6.mono hn0w)) (ij _))).mono ?_;rintro e w7 ⟨rfl,hb7⟩;generalize sm x.gn _ _=v3;have hS7:=hS6.trans (hb7.mono hS6.size);refine hK.out _ _ (hS7) ?_;clear hK K;refine tO 16 fun K hK=> ?_;go_simp;refine hK.out _ _ (hS7) ?_;clear hK K;refine tO 17 fun K hK=> ?_;go_simp;refine hK.out _ _ (hS7) ?_;clear hK K;refine tD ?_;gi_wp2;generalize IntKind.i64.wrap (IntKind.i64.wrap (v1+v2)-v3)=mo;have hn7:n0<=wr.heap.size:=by have:=HN0.out;omega
        have hltO:=HSs.out.lt;have HJ7:=jA (HJ.out s1 O1 O1 wr w7 HJs.out (gI.ke hS7) (fun b hb=>⟨.inl hb,bP (hltO b hb) hS7.size⟩));have HS7:=jA (HSs.out.below hS7 hn7);have HK7:Hid (∀b,O b->w7.heap[b]? =W.heap[b]?):=jA (fun b hb=>(hS7.block b (hltO b (by rw[HO1.out];exact .inl hb))).trans (HKs.out b hb));have b47:=b4.below hS7 l4;have b67:=b6.below hS7 l6;have ye7:w7.cell? ⟨be,oe+k,none⟩=some (.int .i64 el):=(oD (show w7.heap[be]? =W.heap[be]? from(HSt.out.o4 be rfl).elim (HK7.out be) (fun h=>(HS7.out.bl.block be h).trans (HB0.out.block be h).symm))).trans ye;have hbe7:=block_lt_of_cell ye7;have k37:=b47.c 3;have k127:=b47.c 12;have l47:=b47.lt;have l67:=b67.lt;have hn77:n0<=w7.heap.size:=eZ hn7 hS7.size;clear hS hS5 hS6 hS7 hb5 hb6 hb7 hltO d0 d1 d2 d3 d4 d5 hxw ye;by_cases g3:x.len<wrap64 (el+mo)
        ·have g3b:decide (wrap64 (el+mo)<=x.len)=false:=by simp;omega
         have g3c:decide (IntKind.i64.wrap (el+mo)<=x.len)=false:=by rw[IntWalk.i64_left];exact g3b
         refine wpIn_wide.2 ?_
         go_quiet (fail)
         gi_wp2;go_roundw
         case rel=>exact⟨_,_,_,_,_,_,⟨i+1,by omega,rfl,s1,jA (HJ.out s1 O1 O1 w7 _ HJ7.out (gI.drewN _ _ _) (fun b hb=>⟨.inl hb,HS7.out.lt b hb⟩)),by omega,jA (HS7.out.below (below_drewN (bS _ _) _) hn77),b47,b67⟩,rfl,rfl,rfl,rfl,rfl,rfl⟩
         case measure=>exact mI
        ·have g3':wrap64 (el+mo)<=x.len:=by omega
         have g3c:IntKind.i64.wrap (el+mo)<=x.len:=by rw[IntWalk.i64_left];exact g3'
         refine Md 17 3 (fun wS=>Below w7.heap.size w7 wS) [] (by kernel_rfl) rfl rfl (by kernel_rfl) (by kernel_rfl) (bS _ _).drew (fun hS=> ?_);refine tk 0 hS ?_;refine tk 1 hS ?_;refine tk 2 hS ?_;refine tk 3 hS ?_;refine tk 4 hS ?_;refine tk 5 hS ?_;refine tk 6 hS ?_;refine tk 7 hS ?_;refine tk 8 hS ?_;refine tk 9 hS ?_;refine tk 10 hS ?_;refine tk 11 hS ?_;try simp only[Act.put,gK,fJ,fI]
         refine jE 12 (v:= ?_) rfl (by rfl) (by kernel_rfl) (fun _ _ _ h=>h) ?_ hS ?_;rotate_left
         ·exact C9
         try simp only[Act.put,gK,fJ,fI]
         try simp only[Act.put,gK,fJ,fI]
         refine jE 13 (v:= ?_) rfl (by rfl) (by kernel_rfl) (fun _ _ _ h=>h) ?_ hS ?_;rotate_left
         ·exact C9
         try simp only[Act.put,gK,fJ,fI]
         try simp only[Act.put,gK,fJ,fI]
         refine jE 14 (v:= ?_) rfl (by rfl) (by kernel_rfl) (fun _ _ _ h=>h) ?_ hS ?_;rotate_left
         ·exact C9
         try simp only[Act.put,gK,fJ,fI]
         try simp only[Act.put,gK,fJ,fI]
         refine jE 15 (v:= ?_) rfl (by rfl) (by kernel_rfl) (fun _ _ _ h=>h) ?_ hS ?_;rotate_left
         ·exact C9
         try simp only[Act.put,gK,fJ,fI]
         try simp only[Act.put,gK,fJ,fI]
         refine jE 16 (v:= ?_) rfl (by rfl) (by kernel_rfl) (fun _ _ _ h=>h) ?_ hS ?_;rotate_left
         ·exact C9
         try simp only[Act.put,gK,fJ,fI]
         refine tD ?_;refine(show wpAnyIn Fence.wide n prog .any _ _ 3 _ _ _ from ?_);have HJd:=jA (HJ.out s1 O1 O1 w7 w7.drew HJ7.out (gI.drewN O1 w7 1) (fun b hb=>⟨.inl hb,HS7.out.lt b hb⟩));obtain⟨fn,tmps,assign,body,hy,hR⟩:=HY.out (n-1) s1 O1 #[.agg #[.int .i64 (k:Int),.int .i64 (i:Int),.int .i64 mo]] w7.drew HJd.out ⟨k,i,mo,rfl,⟨HS.out,HND.out,HNIN.out,.inl ⟨k,t,i,rfl,HKT.out,rfl,by omega⟩⟩,by omega⟩;refine uZ 17 rfl rfl (by kernel_rfl) (fun K hK=> ?_);go_simp;refine hR.mono ?_;rintro e W' ⟨rfl,hJ',hbl',hok'⟩;have HJ':=jA hJ';have HS':=jA ((HS7.out.below (below_drewN (bS _ _) 1) hn77).step hbl' hok');have HK':Hid (∀b,O b->W'.heap[b]? =W.heap[b]?):=jA (fun b hb=>(hok' b (by rw[HO1.out];exact .inl hb)).trans (HK7.out b hb));have b4':fc W' W.heap.size 375 _:=(hok' W.heap.size (by rw[HO1.out];exact .inr ⟨ij _,by omega⟩)).trans b47;have b6':fc W' (W.heap.size+1) 84 _:=(hok' (W.heap.size+1) (by rw[HO1.out];exact .inr ⟨by omega,by omega⟩)).trans b67;clear hJ' hok' hbl';refine hK.out _ _ ?_;clear hK K hy hR;try simp only[Act.put,gK,fJ,fI]
         refine uZ 18 rfl rfl (by kernel_rfl) (fun K hK=> ?_);go_simp;refine hK.out _ _ ?_;clear hK K;try simp only[Act.put,gK,fJ,fI]
         refine uZ 19 rfl rfl (by kernel_rfl) (fun K hK=> ?_);go_simp;refine hK.out _ _ ?_;clear hK K;try simp only[Act.put,gK,fJ,fI]
         refine JW (by kernel_rfl) ?_;gi_wp2;go_roundw
         case rel=>exact⟨_,_,_,_,_,_,⟨i+1,by omega,rfl,s1+1,HJ',by omega⟩,rfl,rfl,rfl,rfl,rfl,rfl⟩
         case measure=>exact mI
     ·gi_wp2;go_ret;exact⟨rfl,s1,O1,HJs.out,(fun b hb=>by rw[HO1.out];exact .inl hb),by omega,HSs.out,HKs.out⟩
end
section
open Go.Proofs.Tryz
open Go.RowKit Go.Shelf jm ko kN B4
attribute [local go_sem] iO
def OB (l:List Int) (z:Int):(qU l).contains z=decide (z∈l):=by rw[BE,List.contains_iff_mem,decide_eq_true_iff];exact(yi l).mem_iff
def R9 (v:Value) (L:List Int) (z:Int) (W:World) (h:gx W .i64 v L) (hs:L.Pairwise (· <= ·)) (l:L.length<=1000000):
  Calls prog 338 #[v,z] W fun e w'=>(∃i:Nat,e=.returned (.tuple #[i,.bool (L.contains z)]))/\Below W W w':=by
 obtain⟨A,c,rfl,h1,h2,a⟩:=gx.open_ h
 rcases kV L with h0|h0
 ·have:=gj h0;subst this;refine(slices_BinarySearch_int_empty A c z W).mono ?_;rintro e w' ⟨rfl,rfl⟩;exact⟨⟨0,rfl⟩,bS _ _⟩
 ·obtain⟨b,o,rfl,k,-⟩:=a 0 (L[0]) (by simp[h0]);refine(slices_BinarySearch_int b o L c L z W lE oG (fun j d=>?_) (by simpa using hs)).mono ?_
  ·obtain⟨g,m,f,-,y⟩:=a j (L[j]) (by simp[d]);cases f;rw[y,gR];simp[d]
  ·rintro e w' ⟨rfl,q,rfl⟩;rw[gh];exact⟨⟨_,rfl⟩,below_drewN bF q⟩
def FA:(prog.info? 44).map (·.size)=some 1:=kR
def xu (Q kb sb:Nat) (w0:World) (x:fS) (A1:Option Addr) (c1:Nat) (A2:Option Addr) (c2:Nat) (Ad:Option Addr) (cd:Nat) (d:Dy) (R:Value) (tw:Bool) (fv:Value) (C:Int) (lv ev:Value) (z q:Int) (KK:Nat)
  (hx:iz w0 (.agg (xC x A1 c1 A2 c2).toArray) x) (ho:ga x) (hd:RL 1 jf w0 (.slice Ad d cd) d) (hk:jS x.eB KK d) (bU:KK<=1000000) (aJ:Q=w0):
  zO prog 337 #[.pointer sb,.pointer kb] Q (Sd x.eB d (z,q)) (mi Q kb sb w0 x A1 c1 A2 c2 Ad cd d R tw fv C lv ev z q):=by
 intro n l J O W hn m hJ hY h0;have bW:=m.bl.size;have bY:Q<=W.heap.size:=oG;have bk:=m.k;have bs:=m.s;have lk:=bk.lt;have ls:=bs.lt;have P:=m.lt;have ag:Hid (∀(O':Nat->Prop) (W':World),Below W W W'->(∀b,O b->O' b)->(∀b,O' b->O b\/W.heap.size<=b/\b<W'.heap.size)->J 0 O' W'/\mi Q kb sb w0 x A1 c1 A2 c2 Ad cd d R tw fv C lv ev z q O' W'):=
  zH (fun O' W' k h1 h2=>by
   have hs:=k.size;refine⟨hJ 0 O O' W W' h0 (gI.ke k) (fun b Z=>?_),(m.below k bY).more h1 (fun b Z=>?_)⟩
   ·rcases h2 b Z with h|h
    ·exact⟨.inl h,by have:=P b h;omega⟩
    ·exact⟨.inr h.1,h.2⟩
   ·rcases h2 b Z with h|h
    ·have:=P b h;omega
    ·exact h.2)
 obtain⟨aW,bB,HX,HO,HD,HK⟩:=Zf m.r.on m.r.tw hx ho hd hk;have aR:Hid ((oN d).length<=1000000):=zH (by have:=hk.wt;have:=vB d;unfold oN;rw[fm];omega);obtain⟨HJ,HY,aQ,cI,A⟩:=Ze hJ hY m.bl P aJ;have cT:=ho.head;clear hx ho hd hk hJ hY m h0 P aJ bW;refine callsIn_of_wp func337 rfl trivial ?_ rfl;simp only[ntmps337,gU,ff,fZ,Nat.reduceAdd,Nat.reduceSub,iq,ir,iX,iA,gQ,fY]
 gi_upto_region 0 with fail
 gi_cut [4,5] from 10 (fun p nv wc=> ∃g H L,p=.pointer (pB g)/\nv=.int .i64 d.length/\W.heap.size<=g/\fc wc g 44 [.slice H 1 L]/\Hid (OS W wc (.slice H 1 L) [(z,q)])/\Below W W wc)
 case first=>
  have s0:=bs.c 0;have S:=bs.c 1;have k6:=bk.c 6;refine wpIn_wide.2 ?_;refine rB [] fun hS=>?_;refine kL [0,2,3,4,5] ?_;refine pU ?_;refine mL 1 6 rfl rfl rfl rfl kR (fun K v=>?_) (fun K v=>?_)
  ·go_simp;refine(r9 z q _).mono ?_;rintro e w5 ⟨tv,rfl,D,N⟩;obtain⟨H,L,rfl,-⟩:=D.slice;have o:=zH (D.mono hS.size);have hS:=hS.trans (N.mono hS.size);refine v _ _ (hS) ?_;refine tO 6 fun K v=>?_;go_simp;have h6:=hS.alloc hS.size (cB 44 [()]);refine v _ _ (h6) ?_;refine tO 7 fun K v=>?_;refine gY _ 44 (.tmp 4) (.tmp 11) rfl w5 44 [()] [.slice H 1 L] (fc.new w5 _ [()]) rfl rfl FA rfl rfl ?_;intro w9 b9 E cC;have Y:=(h6.grown E h6.size (fun q hq=>by cases hq;exact hS.size));refine v _ _ (Y) ?_;refine tO 8 fun K v=>?_;go_simp;refine v _ _ (Y) ?_;refine tD ?_;gi_wp2_with fail;gi_meet;exact⟨_,_,_,rfl,rfl,hS.size,b9,(oT (o.alloc _) (fc.new w5 _ [()]) dE E),Y⟩
  ·go_simp;have h6:=hS.alloc hS.size (cB 44 [()]);have hw:=hS.size;have b6:=fc.new W.drew 44 [()];refine v _ _ (h6) ?_;have hS:=h6;refine tO 1 fun K v=>?_;go_simp;refine(r9 z q _).mono ?_;rintro e w5 ⟨tv,rfl,D,N⟩;obtain⟨H,L,rfl,-⟩:=D.slice;have o:=zH (D.mono hS.size);have hS:=hS.trans (N.mono hS.size);refine v _ _ (hS) ?_;replace b6:=b6.below N b6.lt;refine tO 7 fun K v=>?_;refine gY _ 44 (.tmp 4) (.tmp 11) rfl W 44 [()] [.slice H 1 L] (b6) rfl rfl FA rfl rfl ?_;intro w9 b9 E cC;have Y:=(hS.grown E hS.size (fun q hq=>by cases hq;exact lE));refine v _ _ (Y) ?_;refine tO 8 fun K v=>?_;go_simp;refine v _ _ (Y) ?_;refine tD ?_;gi_wp2_with fail;gi_meet;exact⟨_,_,_,rfl,rfl,lE,b9,(oT o b6 dE E),Y⟩
 case rest=>
  obtain⟨g,H,L,rfl,rfl,hg,bT,o,u⟩:=hcut;have bZ:=u.size;obtain⟨y,M⟩: ∃y:Nat->Prop,y=fun b=>O b\/W.heap.size<=b/\b<wc.heap.size:=⟨_,rfl⟩;have aq:=zH M;obtain⟨aH,ae⟩:=ag y wc u (by rw[M];exact fun b h=>.inl h) (by rw[M];exact fun b h=>h);obtain⟨V,ai⟩:=Zb ae aH;clear aH ae M ag;have f:=bk.below u lk;have I:=bs.below u ls;have lT:=bT.lt;have cD:=bT.lt;have d0:=f.c 0;have d1:=f.c 1;have d2:=f.c 2;have d3:=f.c 3;have d4:=f.c 4;have d5:=f.c 5;have d7:=f.c 7;have d8:=f.c 8;have aA:=f.c 10;have s0:=I.c 0;have t0:=bT.c 0;have aK:w0.heap.size<=W.heap.size:=by have:=A.out;omega
  have aM:Below w0 w0 wc:=by have:=aQ.out;rw[A.out] at this;exact this.trans (u.mono aK)
  gi_wp2;refine⟨trivial,callsIn_wide.2 ((uu _ _ x [(z,q)] _ (HX.below aM lE) HO o.reads sI).mono ?_)⟩;rintro e w2 ⟨zf,rfl,⟨-,aN⟩,r⟩;have bH:=zH aN;have bJ:=a7 r lE d7;have cF:=a7 r lE s0;gi_wp2;refine⟨trivial,callsIn_wide.2 ((R9 _ _ z _ ((aW.below u lE).below r lE) (uU _) (by rw[oq];exact aR)).mono ?_)⟩;rintro e w3 ⟨⟨ip,rfl⟩,aF⟩;have c:=r.trans (aF.mono r.size);have cG:=u.trans (c.mono bZ);have j:=f.below c f.lt;have bI:=I.below c I.lt;have X:=bT.below c lT;have bE:=o;have aZ:=zH (o.below c lE);have cQ:=c.size;have cV:=j.lt;have cY:=bI.lt;have cU:=X.lt;have ah:=zH (HJ.out 0 y y wc w3 ai.out (gI.ke c) (fun b k=>⟨.inl k,by have:=V.out.lt b k;omega⟩));have aX:=zH (V.below c oG);obtain⟨F,af⟩:=nR ((qU (oN d)).contains z);rw[af];have bh:=zH af;clear d0 d1 d2 d3 d4 d5 d7 d8 aA s0 t0 bJ cF r aF c bk bs f I bT o ai V af u aN lk ls lT aM;have d0:=j.c 0;have d1:=j.c 1;have d2:=j.c 2;have d3:=j.c 3;have d4:=j.c 4;have d5:=j.c 5;have d8:=j.c 8;have aA:=j.c 10;have t0:=X.c 0
  gi_upto_region 3 with fail
  gi_cut [43] from 28 (fun s wx=> ∃b,s=.bool b/\(b=false->zf≠1/\F=false/\tw=false)/\w3=wx)
  case first=>
   by_cases hz:zf=1
   ·subst hz;gi_wp2_with fail;gi_meet;exact⟨_,rfl,by simp[*],rfl⟩
   ·cases F
    ·cases tw
     ·by_cases hv:x.mm<d
      ·gi_wp2_with fail;gi_meet
       exact⟨_,rfl,by simp[*],rfl⟩
      ·gi_wp2_with fail;gi_meet
       exact⟨_,rfl,by simp[*],rfl⟩
     ·gi_wp2_with fail;gi_meet
      exact⟨_,rfl,by simp[*],rfl⟩
    ·cases tw
     ·gi_wp2_with fail;gi_meet
      exact⟨_,rfl,by simp[*],rfl⟩
     ·gi_wp2_with fail;gi_meet
      exact⟨_,rfl,by simp[*],rfl⟩
  case rest=>
   obtain⟨b,rfl,k,rfl⟩:=hcut;have HB:=zH k;clear k;cases b
   ·obtain⟨cA,aO,aP⟩:=HB rfl;have B:=bh.out;rw[aO,OB,decide_eq_false_iff_not] at B;have aL:=(bH cA).1 (z,q) sI;obtain⟨HS,ak,aj⟩:=Zc aL B (bB aP);subst aO aP;clear B aL;have cj:Q<=w3.heap.size:=oG;have cK:=HK.len;gi_wp2;gi_loopw [45] (fun iv wr=> ∃(i S:Nat) (G:Nat->Prop),i<=d/\iv=.int .i64 i/\Hid (J S G wr)/\S<=yw (d.take i)/\Hid (mi Q kb sb w0 x A1 c1 A2 c2 Ad cd d R false fv C lv ev z q G wr)/\
     Hid (∀b,y b->G b)/\Hid (∀b,y b->wr.heap[b]? =w3.heap[b]?)) (fun iv _=>d.length-(intOf iv).toNat)
    case atStart=>exact⟨0,0,y,eC _,rfl,ah,eC _,aX,(fun _ h=>h),(fun _ _=>rfl)⟩
    case round=>
     obtain⟨i,S,G,hi,rfl,T,ae,w,aw,U⟩:=hrel;have a:=w.k;have az:=w.s;by_cases aI:i<d
     ·obtain⟨t,ht⟩:=ec aI;have cO:=rz ht;have cP:=uB d (i+1);have q0:=a.c 0;have q1:=a.c 1;have q2:=a.c 2;have q3:=a.c 3;have q4:=a.c 4;have q5:=a.c 5;have q6:=a.c 6;have q7:=a.c 7;have q8:=a.c 8;have q9:=a.c 9;have cE:=a.c 10;have dg:=a.c 11;have dh:=a.c 12;have di:=az.c 0;have dj:=az.c 1;gi_wp2;refine⟨trivial,callsIn_wide.2 (callsIn_wide.1 (CallsIn.mono (JV Q kb sb w0 x A1 c1 A2 c2 Ad cd d R false fv C lv ev z q KK HX HO HD HK bU A HS aj ak 1 l lE J HJ HY S G wr w T i t ht oG) ?_))⟩;rintro e w5 ⟨rfl,s5,O5,aB,aD,cN,aE,aC⟩;obtain⟨aS,aY⟩:=Zb aB aE;have aV:Hid (∀b,y b->O5 b):=zH (fun b k=>aD b (aw b k));have aU:Hid (∀b,y b->w5.heap[b]? =w3.heap[b]?):=zH (fun b k=>(aC b (aw b k)).trans (U b k));clear aB aE aD aC;gi_wp2;exact⟨⟨i+1,s5,O5,aI,rfl,aS,oG,aY,aV,aU⟩,by simp[intOf];omega⟩
     ·have cg:y g:=by rw[aq.out];exact .inr ⟨hg,cD⟩
      have ay:fc wr g 44 [.slice H 1 L]:=(U g cg).trans X;have bG:Hid (OS W wr (.slice H 1 L) [(z,q)]):=zH (sM aZ fun b k=>U b (by
       rw[aq.out]
       rcases bE.2 with ⟨h,-⟩|⟨b2,cap,cJ,h,r,aG,-⟩
       ·cases h
       ·cases h;cases k;exact .inr ⟨r,(aah.1 aG).1⟩))
      have cZ:=ay.lt;have cX:=a.lt;have q0:=a.c 0;have q1:=a.c 1;have q2:=a.c 2;have q3:=a.c 3;have q4:=a.c 4;have q5:=a.c 5;have cE:=a.c 10;have dm:=ay.c 0
      gi_upto_region 9 with fail
      gi_cut [68] from 56 (fun s wx=> ∃b,s=.bool b/\wr=wx)
      case first=>
       by_cases cH:C=0
       ·by_cases hf:zf=0
        ·subst hf;by_cases hv:(d.length:Int)<x.mm
         ·gi_wp2_with fail;gi_meet
          exact⟨_,rfl,rfl⟩
         ·gi_wp2_with fail;gi_meet
          exact⟨_,rfl,rfl⟩
        ·gi_wp2_with fail;gi_meet
         exact⟨_,rfl,rfl⟩
       ·gi_wp2_with fail;gi_meet
        exact⟨_,rfl,rfl⟩
      case rest=>
       obtain⟨b,rfl,rfl⟩:=hcut;cases b
       ·gi_wp2;refine bodyPost_end (results_none rfl _ _ _) rfl ?_;exact⟨⟨_,rfl⟩,S,G,T⟩
       ·have cw:Below w0 w0 wr:=by have:=w.out.bl;rw[A.out] at this;exact this
        gi_wp2;refine⟨trivial,callsIn_wide.2 ((qE _ _ x [(z,q)] _ (HX.below cw lE) HO bG.reads sI (fun s hs=>by simp at hs;rw[hs];exact HS)).mono ?_)⟩;rintro e w6 ⟨rfl,aa⟩;generalize Mc x.gn _=mo;have cM:Q<=wr.heap.size:=by have:=w.out.bl.size;have:=A.out;omega
        have aT:=zH (HJ S G G wr w6 T (gI.ke aa) (fun b k=>⟨.inl k,bP (w.lt b k) aa.size⟩));clear aa;have cR:=uB d i;obtain⟨fn,tmps,assign,body,hy,hR⟩:=HY (n-1) S G #[.agg #[(d.length:Int),Zo,mo]] w6 aT ⟨d.length,0,mo,rfl,⟨HS,aj,ak,.inr ⟨rfl,rfl⟩⟩,oG⟩;gi_wp2;refine hR.mono ?_;rintro e W7 ⟨rfl,bO,-,-⟩;gi_wp2;refine bodyPost_end (results_none rfl _ _ _) rfl ?_;exact⟨⟨_,rfl⟩,S+1,G,bO⟩
   ·gi_wp2;refine bodyPost_ret (results_none rfl _ _ _) rfl ?_;exact⟨⟨_,rfl⟩,0,y,ah⟩
end
end Go.Proofs.YtgimnjldndkalaaGreatDoor
