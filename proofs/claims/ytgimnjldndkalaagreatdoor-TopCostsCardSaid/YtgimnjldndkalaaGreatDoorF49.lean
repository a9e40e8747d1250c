/- Of the proof of TopCosts: A stop put where it costs the least. -/
import Derived.Test.YtgimnjldndkalaaGreatDoorF24
import Derived.Test.YtgimnjldndkalaaGreatDoorF30
import Derived.Test.YtgimnjldndkalaaGreatDoorF31
set_option linter.all false
set_option maxHeartbeats 4000000
set_option maxRecDepth 100000
namespace Go.Proofs.YtgimnjldndkalaaGreatDoor
variable {g lb:Nat} {O:Nat->Prop} {v:Value} {W w w':World}
section
open Go.Proofs.Tryz
open Go.RowKit Go.Shelf jm ko kN B4
theorem Ro{p:Prop}(h:p:=by
 gi_wp2_with (refine wpListIn_plain rfl fun K F=>Bp (fun c e=>by cases e) (gY _ 380 (.tmp 8) (.tmp 28) rfl (w+1+1+1+1) 380 _ (vm t' p' m') V rfl rfl OK rfl rfl ?_);intro w9 b9 a dB;have ag:=N.grown a sI;have c59:w9.cell? (pB (w+1+1+1+1+1))=some _:=ag.cell 0;have dh:=ag.frozen 0;refine F _ _ ?_);have dt:=aW;have dw:=M;refine⟨⟨(KeepsFrom.of_grownBy a (fun j e=>by cases e;omega)).trans (KeepsFrom.of_grownBy (grownBy_setCell' w9 _ _) (fun j e=>by cases e;omega)),((bS _ W2).grown a oG (fun j e=>by cases e;omega)).setCell (p:=pB (w+1+1+1+1+1)) dO _,fun k I=>?_⟩,M,(hb.grown a oG (fun j e=>by cases e;omega)).setCell (p:=pB (w+1+1+1+1+1)) dO _,?_,?_,?_,?_,t',p',m',true,?_,ag.gH 0 _,fun _=>cg⟩
 ·have:=M k I;exact(fX w9 _ 0 _ k oG).trans (a.block k (cE k I) (fun e=>by cases e;omega))
 ·exact(U.grown a (fun e=>absurd (fg e) oG)).kj (p:=pB (w+1+1+1+1+1)) dO _
 ·exact(J.grown a sI).kj (p:=pB (w+1+1+1+1+1)) dO _
 ·exact(R.grown a sI).kj (p:=pB (w+1+1+1+1+1)) dO _
 ·exact(Y.grown a sI).kj (p:=pB (w+1+1+1+1+1)) dO _
 ·exact b9.kj (p:=pB (w+1+1+1+1+1)) dO _):p:=h
attribute [local go_sem] iO
variable {D l:Nat} {d:Dy} {o:Obj}
def Bu (x:fS) (A1:Option Addr) (c1:Nat) (A2:Option Addr) (c2:Nat) (Ad:Option Addr) (n cd:Nat) (C:Value) (tw:Bool) (fv:Value) (Q:Int) (lv ev:Value) (z q:Int) (w:World):
  Calls prog 321 #[.agg (nD x A1 c1 A2 c2 Ad n cd C tw fv Q lv ev).toArray,.agg #[z,q]] w fun e w'=>
   e=.returned (.func (.func 337) #[] #[.pointer (pB (w+1)),.pointer w])/\fc w' w 375 (nD x A1 c1 A2 c2 Ad n cd C tw fv Q lv ev)/\
   fc w' (w+1) 84 [z,q]/\Below w w w'/\w'.heap.size=w.heap.size+2:=by
 go_enter func321,ntmps321;go_wp2;go_ret;exact⟨rfl,(fc.new w _ _).alloc _,fc.fW _ _ _ sI,bL (bL bF _) _,by simp⟩
def fQ.step {t:Tr} (h:RL 2 iH w v t) (l:w.heap.size<=w') (hc: ∀p u,w.cell? p=some u->w'.cell? p=some u):RL 2 iH w' v t:=by obtain⟨A,c,e,M,h2,h3⟩:=h;refine⟨A,c,e,M,h2,fun k=>?_⟩;obtain⟨b,o,e,hb,f⟩:=h3 k;refine⟨b,o,e,bP hb l,fun i x hx=>?_⟩;obtain⟨cs,n,a,g⟩:=f i x hx;exact⟨cs,n,a,fun j u hu=>hc _ _ (g j u hu)⟩
def iK.step (h:RL 1 jf w v d) (l:w.heap.size<=w') (hc: ∀p u,w.cell? p=some u->w'.cell? p=some u):RL 1 jf w' v d:=by obtain⟨A,c,e,M,h2,h3⟩:=h;refine⟨A,c,e,M,h2,fun k=>?_⟩;obtain⟨b,o,e,hb,f⟩:=h3 k;refine⟨b,o,e,bP hb l,fun i x hx=>?_⟩;obtain⟨cs,n,⟨tv,e,a⟩,g⟩:=f i x hx;exact⟨cs,n,⟨tv,e,fQ.step a l hc⟩,fun j u hu=>hc _ _ (g j u hu)⟩
def Hy (hD:W.heap[D]? =some o) (ho:o.isCells=false) (a:Obj) (p:Addr) (u:Value) (h:W.cell? p=some u):(W.putObj D a).cell? p=some u:=by refine(grownBy_putObj' W D a).cell h fun e=>?_;cases e;unfold World.cell? at h;rw[hD] at h;cases o <;>simp_all [Obj.isCells]
def pS {g:Nat} {t:TypeId} {cs:List Value} (h:fc W g t cs) (hD:W.heap[D]? =some o) (ho:o.isCells=false) (a:Obj):fc (W.putObj D a) g t cs:=
 ((grownBy_putObj' W D a).block g h.lt (fun e=>by cases e;unfold fc at h;rw[hD] at h;cases h;cases ho)).trans h
abbrev vm (t p m:Int):List Value:=[t,p,m]
def qw:(prog.info? 39).map (·.size)=some 1:=kR
def OK:(prog.info? 380).map (·.size)=some 3:=kR
def D4 (w:World) (x:fS) (A1:Option Addr) (c1:Nat) (A2:Option Addr) (c2:Nat) (Ad:Option Addr) (cd:Nat) (d:Dy) (z q:Int):Jt:=fun _ O W=>
 (∀k,O k->w.heap.size+6<=k)/\Below w w W/\fc W w 25 (xC x A1 c1 A2 c2)/\fc W (w+1) 39 [.slice Ad d cd]/\fc W (w+1+1) 84 [z,q]/\
 fc W (w+1+1+1) 39 [()]/\ ∃(t p m:Int) (f:Bool),fc W (w+1+1+1+1) 380 (vm t p m)/\fc W (w+1+1+1+1+1) 4 [f]/\(f=true->PW x.eB d (z,q) t p)
section
variable {x:fS} {A1:Option Addr} {c1:Nat} {A2:Option Addr} {c2:Nat} {Ad:Option Addr} {cd:Nat} {d:Dy} {z q:Int}
def D4.ab:Ms (D4 w x A1 c1 A2 c2 Ad cd d z q):=fun s O b A B hj l ho=>by
 obtain⟨M,hb,U,J,R,Y,t,p,m,f,V,N,hf⟩:=hj;have n:=N.lt;have I: ∀g,g<w.heap.size+6->B.heap[g]? =A.heap[g]? :=fun g hg=>l.block g oG fun h=>by have:=M g h;omega
 exact⟨fun k a=>by rcases (ho k a).1 with h|h;exact M k h;omega,hb.trans ⟨l.os,l.tape,l.output,l.size,fun k a=>I k oG⟩,
  (I _ oG).trans U,(I _ oG).trans J,(I _ oG).trans R,(I _ oG).trans Y,t,p,m,f,(I _ oG).trans V,(I _ oG).trans N,hf⟩
def D4.bk {B:Nat} (b:w.heap.size<=B) (s:Nat) (O:Nat->Prop):rR B (D4 w x A1 c1 A2 c2 Ad cd d z q s O):=fun A C row hj hg a=>by obtain⟨M,hb,U,J,R,Y,t,p,m,f,V,N,hf⟩:=hj;exact⟨M,rR.below b lE A C row hb hg a,rR.ig _ _ _ A C row U hg a,rR.ig _ _ _ A C row J hg a,rR.ig _ _ _ A C row R hg a,rR.ig _ _ _ A C row Y hg a,t,p,m,f,rR.ig _ _ _ A C row V hg a,rR.ig _ _ _ A C row N hg a,hf⟩
end
def OL.putObj {α:Type} {e:TypeId} {size:Nat} {O:World->List Value->α->Prop} {L:List α} (h:OL lb e size O w v L) (a:Obj) (n:w.heap[l]? =some o) (ho:o.isCells=false) (hO: ∀cs x,O w cs x->O (w.putObj l a) cs x):OL lb e size O (w.putObj l a) v L:=by obtain⟨b,M,h2,h3,f⟩:=h;exact⟨b,M,h2,ownsRow_putObj h3 a n ho,fun i x cs hx hc=>hO _ _ (f i x cs hx hc)⟩
def OT.putObj (h:OT lb w v d) (a:Obj) (n:w.heap[l]? =some o) (ho:o.isCells=false):OT lb (w.putObj l a) v d:=
 OL.putObj h a n ho fun _ _ ⟨v,e,h⟩=>⟨v,e,OL.putObj h a n ho fun _ _ h=>h⟩
def vK (x:fS) (A1:Option Addr) (c1:Nat) (A2:Option Addr) (c2:Nat) (Ad:Option Addr) (cd:Nat) (d:Dy) (z q:Int) (w:World) (hx:iz w (.agg (xC x A1 c1 A2 c2).toArray) x) (ho:ga x) (hd:RL 1 jf w (.slice Ad d cd) d)
  (I:jS x.eB 4000 d) (aO: ∀t∈d,t≠[]):
  Calls prog 308 #[.agg (xC x A1 c1 A2 c2).toArray,.agg #[.slice Ad d cd],.agg #[z,q]] w fun e w'=>
   ∃dv d' b,e=.returned (.tuple #[.agg #[dv],.bool b])/\OT w w' dv d'/\jS x.eB 4000 d'/\(∀t∈d',t≠[])/\Below w w w':=by
 obtain⟨HX,HO,HD,HK,aM⟩:=Ze hx ho hd I aO;have dP:=I.len;clear hx ho hd I aO;refine(callsIn_wide (n:=4)).1 ?_;refine callsIn_of_wp_marks func308 rfl trivial ?_ rfl;simp only[ntmps308,gU,ff,fZ,Nat.reduceAdd,Nat.reduceSub,iq,ir,iX,iA,gQ,fY]
 gi_upto_region 2 with fail
 obtain⟨w1,bI,⟨U,J,R,Y,V,N,-⟩,aA,cP⟩:=sk w [(25,xC x A1 c1 A2 c2),(39,[.slice Ad d cd]),(84,[z,q]),(39,[()]),(380,vm 0 0 0),(4,[false])];simp only[Hk] at bI;rw[bI];replace cP:w1.heap.size=w.heap.size+1+1+1+1+1+1:=cP;clear bI;obtain⟨k0,k1,k2,k3,k4,k5⟩:=U.jI;have d0:=J.c 0;have s0:=R.c 0;have s1:=R.c 1
 gi_cut [17] from 13 (fun f wB=> ∃(A:World) (C:Value) (tw:Bool) (fv:Value) (Q:Int) (lv ev:Value),f=.func (.func 337) #[] #[.pointer (pB (A+1)),.pointer A]/\
  Hid (vt A d C tw fv lv ev)/\Hid (∀v∈[C,fv,lv,ev],∀g,v.ownBlock=some g->w1.heap.size<=g/\g<A.heap.size)/\Below w1 w1 A/\Below A A wB/\wB.heap.size=A.heap.size+2/\
  fc wB A 375 (nD x A1 c1 A2 c2 Ad d cd C tw fv Q lv ev)/\fc wB (A+1) 84 [z,q])
 case first=>refine wpIn_wide.2 ?_;refine rB [] fun hS=>?_;refine kL [0,1,3] ?_;refine tO 2 fun K F=>?_;go_simp;refine(Fq x A1 c1 A2 c2 Ad cd d 4000 _ (HX.below (aA.trans (hS.mono aA.size)) lE) HO (iK.below HD (aA.trans (hS.mono aA.size)) lE) HK oG).mono ?_;rintro e wA ⟨C,tw,fv,Q,lv,ev,rfl,cK,aV,aB⟩;obtain⟨cM,bG⟩:=Zb cK aV;clear cK aV;have hS:=hS.trans (aB.mono hS.size);refine F _ _ (hS) ?_;refine tO 4 fun K F=>?_;go_simp;refine(Bu x A1 c1 A2 c2 Ad d cd C tw fv Q lv ev z q _).mono ?_;rintro e wB ⟨rfl,bk,bs,aC,aP⟩;have dn:=hS.trans (aC.mono hS.size);refine F _ _ (dn) ?_;refine pU ?_;refine qi kR ?_;unfold oB;gi_wp2_with fail;gi_meet;exact⟨wA,C,tw,fv,Q,lv,ev,rfl,cM,bG,hS,aC,aP,bk,bs⟩
 case rest=>
  obtain⟨A,C,tw,fv,Q,lv,ev,rfl,bU,aR,aB,aC,aP,bk,bs⟩:=hcut;have E:=aB.trans (aC.mono aB.size);have aW:=E.size;have dx:=aB.size;replace U:=U.below E U.lt;replace J:=J.below E J.lt;replace R:=R.below E R.lt;replace Y:=Y.below E Y.lt;replace V:=V.below E V.lt;replace N:=N.below E N.lt;have ak:=aA.trans (E.mono aA.size);obtain⟨O0,az⟩: ∃O0:Nat->Prop,O0=fun b=>w1.heap.size<=b/\b<wc.heap.size:=⟨_,rfl⟩;have aL: ∀v∈[C,fv,lv,ev],FL (fun b=>O0 b\/b<w.heap.size) v:=fun v hv g hg=>by have:=aR.out v hv g hg;rw[az];exact .inl ⟨this.1,oG⟩
  have cR:Hid (mi w A (A+1) w x A1 c1 A2 c2 Ad cd d C tw fv Q lv ev z q O0 wc):=zH
   ⟨ak,bk,bs,bU.below aC lE,by rw[az];exact⟨dx,oG⟩,by rw[az];exact⟨oG,oG⟩,aL _ sI,aL _ sI,aL _ sI,aL _ sI,by rw[az];exact fun k h=>h.2⟩
  obtain⟨bY,dN⟩:=Zb az aP;clear aP aL az bk bs aB aC bU aR k0 k1 k2 k3 k4 k5 d0 s0 s1;gi_wp2;refine(qL oG (gf:=337) (lb:= #[.pointer (pB (A+1)),.pointer A]) rfl (enters_of func337 kR rfl)
   (xu w A (A+1) w x A1 c1 A2 c2 Ad cd d C tw fv Q lv ev z q 4000 HX HO HD HK oG rfl) ak.size (fun s O W x h=>by obtain⟨t,p,m,rfl,-⟩:=h;rfl)
   (D4 w x A1 c1 A2 c2 Ad cd d z q) D4.ab (D4.bk ak.size) O0 (by rw[bY.out];exact fun k h=>h.2) (fun W hg=>cR.below ⟨hg.os,hg.tape,hg.output,hg.size,fun k I=>hg.block k I sI⟩ ak.size)
   ⟨by rw[bY.out];exact fun k h=>by have:=h.1;omega,ak,U,J,R,Y,0,0,0,false,V,N,fun h=>by cases h⟩ ?round ?done)
  case round=>
   intro m l s O x' W K hI dm hO dz F;obtain⟨t',p',m',rfl,H,-⟩:=dm;have cg:=zH H;have cD:D4 w x A1 c1 A2 c2 Ad cd d z q s O (W.alloc (cB 380 (vm t' p' m'))):=D4.ab s O O _ _ hI (gI.alloc O W _) (fun k I=>⟨.inl I,bP (hO k I) sI⟩);have cw:ju wc w O W (W.alloc (cB 380 (vm t' p' m'))):=⟨(KeepsOthers.alloc _ _).from _,(bS _ W).alloc (eZ ak.size dz) _,fun k I=>((bS _ W).alloc lE _).block k (hO k I)⟩;have ah:=fc.new W 380 (vm t' p' m');obtain⟨bO,bJ,bW⟩:=Zc cD cw ah;clear H hI cD cw ah U J R Y V N;gi_wp2;refine F _ _ bJ (fun m l W2 cE dV bB=>?_);have ah:=bB _ (rR.ig W 380 (vm t' p' m')) bW;obtain⟨M,hb,U,J,R,Y,t,p,mo,f,V,N,hf⟩:=bB _ (D4.bk ak.size s O) bO;have HF:=zH hf;have l5:=N.lt;have lN:=ah.lt;have c4:=V.c 2;have c5:=N.c 0;have n0:=ah.c 0;have n1:=ah.c 1;have n2:=ah.c 2;clear bO bW bJ bB hf;by_cases hc:f=false\/m'<mo
   ·cases f
    ·exact Ro
    ·have dr:m'<mo:=by simpa using hc
     exact Ro
   ·obtain rfl:f=true:=by cases f <;>simp_all
    have dr: ¬(m'<mo):=fun h=>hc (.inr h);gi_wp2;exact⟨ju.refl _ _ _ _,M,hb,U,J,R,Y,t,p,mo,true,V,N,fun _=>HF trivial⟩
  case done=>
   intro D s O W hD hI cJ;obtain⟨M,hb,U,J,R,Y,t,p,mo,f,V,N,hf⟩:=hI;have HF:=zH hf;have cF:=hb.size;have dU:wc.heap.size<=D:=hD;have dj:=(aah.1 cJ).1;have l5:=N.lt;have d0:=J.c 0;clear hf M;gi_wp2;refine⟨trivial,callsIn_wide.2 ((H4 Ad cd d W (iK.below HD.out hb lE) (fun t ht=>by have:=HK.out.Su ht;omega) oG).mono ?_)⟩;rintro e Wc ⟨X,B,tvs,rfl,cA,S⟩;replace U:=U.below S U.lt;replace J:=J.below S J.lt;replace R:=R.below S R.lt;replace Y:=Y.below S Y.lt;replace V:=V.below S V.lt;replace N:=N.below S l5;have cI:Wc.heap[D]? =some (.deferred (some [])):=(S.block D dj).trans cJ;have f1:=J.frozen 0;have d0:=J.c 0
   gi_upto_region 9 with fail
   have q0:=U.kj (p:=pB (w+1)) dO (.slice X d B);have q1:fc (Wc.setCell (pB (w+1)) (.slice X d B)) (w+1) 39 [.slice X d B]:=J.gH 0 (.slice X d B);have q2:=R.kj (p:=pB (w+1)) dO (.slice X d B);have q3:=Y.kj (p:=pB (w+1)) dO (.slice X d B);have q4:=V.kj (p:=pB (w+1)) dO (.slice X d B);have q5:=N.kj (p:=pB (w+1)) dO (.slice X d B);have aN:=cA.fG (q:=(pB (w+1))) dO (.slice X d B);have ai:Below w w (Wc.setCell (pB (w+1)) (.slice X d B)):=(hb.trans (S.mono cF)).setCell (p:=pB (w+1)) dO _;have r:(Wc.setCell (pB (w+1)) (.slice X d B)).heap[D]? =some (.deferred (some [])):=(fX _ _ _ _ _ oG).trans cI;have z5:W.heap.size<=(Wc.setCell (pB (w+1)) (.slice X d.length B)).heap.size:=by have:=S.size;simp;omega
   clear f1 d0 U J R Y V N cI cA S;revert q0 q1 q2 q3 q4 q5 aN ai r z5;generalize Wc.setCell (pB (w+1)) (.slice X d B)=W5;intro q0 q1 q2 q3 q4 q5 aN ai r z5;have ay:=zH aN;clear aN;have f3:=q3.frozen 0;have d1:=q1.c 0;have d3:=q3.c 0;have d5:=q5.c 0;have d4:=q4.c 0;have aG:=q4.c 1;have s0:=q2.c 0;have s1:=q2.c 1;have ef:=q5.lt;have dC:=q1.lt;have dY:=q2.lt;have dD:=q3.lt;have dZ:=q4.lt;cases f
   ·gi_wp2;have o:Hid ((W5.setCell (pB (w+1+1+1)) (.slice X d B)).heap[D]? =some (.deferred (some []))):=zH ((fX _ _ _ _ _ oG).trans r);have BX:Hid (fc (W5.setCell (pB (w+1+1+1)) (.slice X d B)) (w+1+1+1) 39 [.slice X d B]):=zH (q3.gH 0 _);have RX:=zH (ay.fG (q:=(pB (w+1+1+1))) dO (.slice X d B)).ot;have aF:Hid (Below w w (W5.setCell (pB (w+1+1+1)) (.slice X d B))):=zH (ai.setCell (p:=pB (w+1+1+1)) dO _);refine⟨by simp,.inl ⟨_,_,rfl,run_takeDeferred o,?_⟩⟩;exact⟨_,iw rfl _ _ (w+1+1+1) 39 [.slice X d B] _ false rfl rfl (pS BX o rfl _) underlying39 rfl qw,_,d,false,rfl,(RX.mono oG).putObj _ o rfl,HK,aM,po aF lE oG o⟩
   ·have H:=HF rfl;by_cases ht:t=(d.length:Int)
    ·subst ht
     gi_upto_region 12 with fail
     have Z:=(D1.own HK.st aM H.nd H.sok H.nin);have aH:jS x.eB 4000 (d++[[(z,q)]]):=⟨Z.dy.st,by have:=Z.dy.wt;have:=HO.out.head;omega⟩;obtain⟨aX,aY⟩:=Zb Z aH;clear Z aH H;have z6:=z5;refine wpIn_wide.2 ?_;refine rB [5,6,7] fun hS=>?_;refine kL [0,1,2] ?_;refine tO 3 fun K F=>?_;go_simp;refine(r9 z q _).mono ?_;rintro e w6 ⟨tv,rfl,T,cG⟩;obtain⟨At,ct,rfl,-⟩:=T.slice;have hS:=hS.trans (cG.mono hS.size);have dM:=zH T;have dL:=hS.size;have bh:=ay.below hS;have aU:OS W w6 (.slice At 1 ct) [(z,q)]:=T.mono (by show W.heap.size<=W5;omega);refine F _ _ (hS) ?_;refine tO 4 fun K F=>?_;go_simp;refine F _ _ ((hS.alloc hS.size _)) ?_;refine tL 5 fun K F=>?_;refine ma w6 _ _ 37 rfl W 44 _ 1 24 underlying37 uz rfl dE dE _ d tvs bh.own rfl [.slice At 1 ct] _ rfl rfl rfl oG oG ?_;intro g cap P aE aa dS aD dX;refine F _ _ ?_;refine tL 6 fun K F=>?_;go_simp;refine F _ _ ?_;have aS:=aD.below oG;have cH:CT W P (.slice (pB g) (d+1) cap) (tvs++[.slice At 1 ct]) (d++[[(z,q)]]):=bh.more aE aD aU (fun g hg=>(T.lt g hg).2) (fun u hu b hb e=>by have M:=ay.lt u hu b hb;have h2:W5.heap.size<=b:=(T.lt b e).1;omega);have cQ:=zH cH;have r1:=aD.ig (q1.below hS q1.lt) dE;have r3:=aD.ig (q3.below hS q3.lt) dE;have cZ:=r1.frozen 0;have cV:=r1.c 0;have aK:P.heap[D]? =some (.deferred (some [])):=(aD.block D (by have:=(aah.1 r).1;omega) (.inr fun cs fr e=>by rw[hS.block D (aah.1 r).1,r] at e;cases e)).trans ((hS.block D (aah.1 r).1).trans r);have aI:=(ai.trans (hS.mono ai.size)).trans (aS.mono cF);clear cH aE aU T bh d3 f3;refine tL 7 fun K F=>?_;go_simp;refine F _ _ ?_;refine pU ?_;refine qi kR ?_;unfold oB;have aw:fc (P.setCell (pB (w+1)) (.slice g (d+1) cap)) (w+1) 39 [.slice g (d+1) cap]:=r1.gH 0 _;have L:=r3.kj (p:=pB (w+1)) dO (.slice g (d+1) cap);have G:=(cQ.fG (q:=(pB (w+1))) dO (.slice g (d+1) cap)).ot;have aq:(P.setCell (pB (w+1)) (.slice g (d+1) cap)).heap[D]? =some (.deferred (some [])):=(fX _ _ _ _ _ oG).trans aK;have aj:Below w w (P.setCell (pB (w+1)) (.slice g (d+1) cap)):=aI.setCell (p:=pB (w+1)) dO _;clear hS r1 r3 cZ cV aK aI aD aS cG d1 d4 aG d5 s0 s1 q0 q1 q2 q3 q4 q5;revert aw L G aq aj;generalize P.setCell (pB (w+1)) (.slice g (d+1) cap)=W8;intro aw L G aq aj;have aZ:=zH G;clear G;have dg:=L.frozen 0;have cY:=L.c 0;have cX:=aw.c 0;gi_wp2;have o:Hid ((W8.setCell (pB (w+1+1+1)) (.slice g (d+1) cap)).heap[D]? =some (.deferred (some []))):=zH ((fX _ _ _ _ _ oG).trans aq);have BX:Hid (fc (W8.setCell (pB (w+1+1+1)) (.slice g (d+1) cap)) (w+1+1+1) 39 [.slice g (d+1) cap]):=zH (L.gH 0 _);have RX:=zH (aZ.fG (q:=(pB (w+1+1+1))) dO (.slice g (d+1) cap));have aF:Hid (Below w w (W8.setCell (pB (w+1+1+1)) (.slice g (d+1) cap))):=zH (aj.setCell (p:=pB (w+1+1+1)) dO _);refine⟨by simp,.inl ⟨_,_,rfl,run_takeDeferred o,?_⟩⟩;exact⟨_,iw rfl _ _ (w+1+1+1) 39 [.slice g (d+1) cap] _ true rfl rfl (pS BX o rfl _) underlying39 rfl qw,_,d++[[(z,q)]],true,rfl,(RX.mono oG).putObj _ o rfl,aY,aX.ne,po aF lE oG o⟩
    ·obtain⟨k,u,j,rfl,hu,rfl,hj⟩:=H.at_.resolve_right (fun h=>ht h.1);have dR:=fP hu;obtain⟨tv,bH,T⟩:=ay.os k u hu;obtain⟨g,c',dp,dQ,dq,⟨dH,af⟩,aJ⟩:=ay.cell oG;cases dp;obtain⟨y,yf⟩:=aJ k tv bH;have dA:0<u.length:=jQ.2 (aM u (a8 hu));obtain⟨gb,cb,rfl,dI,dJ,dG,bE⟩: ∃gb cb,tv=.slice (pB gb) u cb/\W.heap.size<=gb/\gb<W5.heap.size/\ ∃cU,W5.heap[gb]? =some (.cells cU 84 (0,0)):=by
      rcases T.2 with ⟨-,h0⟩|⟨g2,c2,cj,M,h2,h3,-⟩
      ·omega
      ·exact⟨g2,c2,M,h2,(aah.1 h3).1,cj,h3⟩
     have aT:g≠gb:=fun e=>by rw[e,bE] at af;injection af with af;injection af with _ af;exact absurd af dE
     have cC:D≠gb:=fun e=>by rw[e,bE] at r;cases r
     have di:D≠g:=fun e=>by rw[e,af] at r;cases r
     have dW:=HK.Su (a8 hu);have Z:=D1.put (p:=j) HK.st aM H.nd H.sok H.nin hu;have aH:jS x.eB 4000 (Gq d k j (z,q)):=⟨Z.dy.st,by have:=Z.dy.wt;have:=HO.out.head;omega⟩;obtain⟨aX,aY,bZ,HU,cT⟩:=Ze Z aH T hu bH;clear Z aH H T aJ hu bH
     gi_upto_region 8 with fail
     refine wpIn_wide.2 ?_;refine rG (fun wS=>wS.cell? (pA g k)=some (.slice gb u cb)/\wS.cell? (pA (w+1+1+1+1) 1)=some (j:Int)/\wS.cell? (pB (w+1+1))=some z/\wS.cell? (pA (w+1+1) 1)=some q) [12] (⟨y,aG,s0,s1⟩) fun hS=>?_;refine kL [0,1,2,3,4,5,6,7] ?_;refine tO 8 fun K F=>?_;go_simp;have bV:=(fc.new W5 84 [z,q]).drewN 1;have i:Below W5 W5 ((W5.alloc (cB 84 [z,q])).drew):=(bL bF _).drew;revert bV i;show∀(bV:fc ((W5.alloc (cB 84 [z,q])).drew) _ _ _),_;generalize (W5.alloc (cB 84 [z,q])).drew=W6;intro bV i;have dK:=i.size;refine F _ _ (⟨a7 i lE y,a7 i lE aG,a7 i lE s0,a7 i lE s1⟩) ?_;refine tO 9 fun K F=>?_;go_simp;refine(QJ W W6 gb cb u j W5 z q (bZ.below i lE) dA oG hj oG bV oG).mono ?_;rintro e P ⟨rv,rfl,aE,aa⟩;obtain⟨Ar,cr,cO,-⟩:=aE.slice;obtain⟨nr,cN⟩:=nR ((u.take j++((z,q)::u.drop j)).length);rw[cN] at cO;subst cO;clear cN;have y7:=aa.cell (a7 i lE y) (fun e=>aT (fg e));have hS:P.cell? (pA g k)=some (.slice gb u cb)/\P.cell? (pA (w+1+1+1+1) 1)=some (j:Int)/\P.cell? (pB (w+1+1))=some z/\P.cell? (pA (w+1+1) 1)=some q:=
      ⟨y7,aa.cell (a7 i lE aG) (fun e=>absurd (fg e) dO),aa.cell (a7 i lE s0) (fun e=>absurd (fg e) dO),aa.cell (a7 i lE s1) (fun e=>absurd (fg e) dO)⟩
     have ae: ∀b,b<W5.heap.size->b≠gb->P.heap[b]? =W5.heap[b]? :=fun b hb aO=>(aa.block b oG (fun e=>aO (fg e))).trans (i.block b hb);have dF:P.frozen? (pA g k)=false:=(World.frozen?_of_block (ae g dq aT)).trans yf;have G:=(ay.below i).put HU cT aa aE (fun t=>t.take j++(z,q)::t.drop j) rfl;have r1:fc P (w+1) 39 [.slice g d B]:=(ae _ dC oG).trans q1;have r3:fc P (w+1+1+1) 39 [()]:=(ae _ dD oG).trans q3;have aK:P.heap[D]? =some (.deferred (some [])):=(ae D (aah.1 r).1 cC).trans r;have aI:Below w w P:=(ai.trans (i.mono ai.size)).grown aa oG (fun b e=>by cases e;omega);have aQ:=zH G;refine F _ _ (hS) ?_;clear aE G;refine kL [10,11] ?_;refine tL 12 fun K F=>?_;go_simp;refine F _ _ ?_;refine pU ?_;refine qi kR ?_;unfold oB;have aw:fc (P.setCell (pA g k) (.slice Ar nr cr)) (w+1) 39 [.slice g d B]:=r1.kj (p:=pA g k) dO (.slice Ar nr cr);have L:fc (P.setCell (pA g k) (.slice Ar nr cr)) (w+1+1+1) 39 [()]:=r3.kj (p:=pA g k) dO (.slice Ar nr cr);have aq:(P.setCell (pA g k) (.slice Ar nr cr)).heap[D]? =some (.deferred (some [])):=(fX _ _ _ _ _ di).trans aK;have aj:Below w w (P.setCell (pA g k) (.slice Ar nr cr)):=aI.setCell (p:=pA g k) dO _;have G:=aQ.out;clear aQ hS r1 r3 aK aI aa d1 d4 aG d5 s0 s1 q0 q1 q2 q3 q4 q5 y y7 yf dF ae i bV af bE f3 d3;revert aw L G aq aj;generalize P.setCell (pA g k) (.slice Ar nr cr)=W8;intro aw L aq aj G;have aZ:=zH G;clear G;have dg:=L.frozen 0;have cY:=L.c 0;have cX:=aw.c 0;gi_wp2;have o:Hid ((W8.setCell (pB (w+1+1+1)) (.slice g d B)).heap[D]? =some (.deferred (some []))):=zH ((fX _ _ _ _ _ oG).trans aq);have BX:Hid (fc (W8.setCell (pB (w+1+1+1)) (.slice g d B)) (w+1+1+1) 39 [.slice g d B]):=zH (L.gH 0 _);have RX:=zH (aZ.fG (q:=(pB (w+1+1+1))) dO (.slice g d B));have aF:Hid (Below w w (W8.setCell (pB (w+1+1+1)) (.slice g d B))):=zH (aj.setCell (p:=pB (w+1+1+1)) dO _);refine⟨by simp,.inl ⟨_,_,rfl,run_takeDeferred o,?_⟩⟩;exact⟨_,iw rfl _ _ (w+1+1+1) 39 [.slice g d B] _ true rfl rfl (pS BX o rfl _) underlying39 rfl qw,_,Gq d k j (z,q),true,rfl,(RX.mono oG).putObj _ o rfl,aY,aX.ne,po aF lE oG o⟩
end
section
open Go.Proofs.Tryz
open Go.RowKit Go.Shelf jm ko kN B4
theorem Rp{p:Prop}(h:p:=by
 refine G _ _ (⟨a7 a lE R,a7 a lE n2⟩) ?_;refine tO 4 fun K G=>?_;refine qj W4 _ _ rfl (w+4) _ L (H.below a lE) rfl C rfl bV oG oG ?_;intro g cap w5 T aw ay B;have X:=B.ig (I.below a lN) dE;have J:=B.ig (g2.below a l2) dE;have c25:=J.c 0;have bY:=J.frozen 0;refine G _ _ (⟨X.cell 0,X.cell 2⟩) ?_;have aH:=Ny T aw ay;have aE:fc w5 (w+1+1+1) 3 [r]:=(B.block _ oG (.inl oG)).trans (g3.below a l3);have aa:=aE.kj (p:=pB (w+1+1)) dO (.slice g (L+1) cap);have Y:=X.kj (p:=pB (w+1+1)) dO (.slice g (L+1) cap);refine tO 7 fun K G=>?_;go_simp;refine G _ _ (⟨Y.cell 0,Y.cell 2⟩) ?_;have c36:=aa.c 0;have bZ:=aa.frozen 0;refine tO 8 fun K G=>?_;go_simp;have Z:=Y.kj (p:=pB (w+1+1+1)) dO t';refine G _ _ (⟨Z.cell 0,Z.cell 2⟩) ?_;refine tD ?_;gi_wp2_with fail;gi_meet;have el:(L++[C]).length=L.length+1:=sI;have aq:ju wB w O V ((w5.setCell (pB (w+1+1)) (.slice g (L+1) cap)).setCell (pB (w+1+1+1)) t'):=(ju.below a oG ag).trans ((ju.grown ay oG (fun k f=>by have:=ag k f;omega) (fun q hq=>⟨by have:=(H.cells q hq).1;omega,af q hq,(OI.cells (H.below a lE) q hq).2⟩)).trans ((ju.set w5 _ _ oG (fun h=>by have:=E _ h;omega)).trans (ju.set _ _ _ oG (fun h=>by have:=E _ h;omega))));refine⟨some ⟨g,0,none⟩,cap,L++[C],t',?_,zH ?_,(fun b hb aj=>?_),aa.gH 0 _,Z,oG,oG,by simp,aq,aq.bl.size⟩
 ·rw[el];exact(J.gH 0 _).kj (p:=pB (w+1+1+1)) dO _
 ·rw[el];exact jo (jo T dO _) dO _
 ·obtain rfl:g=b:=fg hb
  rcases aH with h|h
  ·exact af _ h aj
  ·have:=ag _ aj;omega):p:=h
attribute [local go_sem] iO
variable {B R n:Nat} {b:World} {l:List Int}
def rR.own {size:Nat} {e:TypeId} {xs:List Value}:rR B (fun W=>W.ownsRow lb e size v n xs):=fun A C row h F a=>sM h fun g hb=>by
 rcases h.2 with ⟨E,-⟩|⟨g2,c2,S,E,h2,N,-⟩
 ·rw[E] at hb;cases hb
 ·rw[E] at hb;cases hb;refine F.block _ (aah.1 N).1 fun e=>?_;obtain⟨-,o,ho,hc⟩:=a _ e.symm;rw[N] at ho;cases ho;cases hc
def DY (w:World):Jt:=fun s O W=>
 (∀k,O k->w.heap.size+4<=k)/\Below w w W/\ ∃(cv:Value) (L:List Int) (r:Int),fc W (w+1+1) 26 [cv]/\OI (w+4) W cv L/\(∀g,cv.ownBlock=some g-> ¬O g)/\
  fc W (w+1+1+1) 3 [r]/\L.length<=s/\L.length<=4001/\(r≠ -1->L≠[])
section
def DY.bk (b:w.heap.size<=B) (s:Nat) (O:Nat->Prop):rR B (DY w s O):=fun A C row c F a=>by obtain⟨E,h2,cv,L,r,e2,ho,Q,e3,hl,ah,hn⟩:=c;exact⟨E,rR.below b lE A C row h2 F a,cv,L,r,rR.ig _ _ _ A C row e2 F a,rR.own A C row ho F a,Q,rR.ig _ _ _ A C row e3 F a,hl,ah,hn⟩
def DY.ab:Ms (DY w):=fun s O e A B c a ho=>by
 obtain⟨E,h2,cv,L,r,e2,hw,Q,e3,hl,ah,hn⟩:=c;have f: ∀g,w.heap.size<=g->g<w.heap.size+4->B.heap[g]? =A.heap[g]? :=fun g N d=>a.block g (by have:=e3.lt;omega) fun h=>by have:=E g h;omega
 refine⟨fun k b=>?_,h2.trans ⟨a.os,a.tape,a.output,a.size,fun k b=>a.block k (by have:=e3.lt;omega) fun h=>by have:=E k h;omega⟩,cv,L,r,(f _ oG oG).trans e2,sM hw fun g F=>a.block g (iB hw g F).2 (Q g F),fun g F h=>?_,(f _ oG oG).trans e3,hl,ah,hn⟩
 ·rcases (ho k b).1 with h|h
  ·exact E k h
  ·have:=e3.lt;omega
 ·rcases (ho g h).1 with N|N
  ·exact Q g F N
  ·have:=(iB hw g F).2;omega
end
def Ny {w':World} {f:List Int} {cap:Nat} (h:OI lb w' (.slice g n cap) f) (hd: ∀u L,OI lb w u L->FK u v->OI lb w' u L/\FK u (.slice g n cap)) (F:w.grownBy w' v.ownBlock):v.ownBlock=some g\/w.heap.size<=g:=by
 rcases iU g w with hlt|hge
 ·left;refine Classical.byContradiction fun aA=>?_
  rcases h.2 with ⟨E,-⟩|⟨g2,c2,S,E,h2,N,d,i,j,m⟩
  ·cases E
  ·cases E;have a:w.heap[g]? =some (.cells S 3 (0,0)):=(F.block g hlt (fun e=>aA e.symm)).symm.trans N;have c:OI lb w (.slice g 0 cap) []:=⟨rfl,.inr ⟨g,cap,S,rfl,h2,a,eC _,i,j,by simp⟩⟩;have:=(hd _ _ c (fun b e1 e2=>aA (by cases e1;exact e2))).2;exact this g rfl rfl
 ·exact .inr hge
def ju.below (h:Below W W b) (hn:R<=W) (hO: ∀k,O k->k<W.heap.size):ju B R O W b:=
 ⟨⟨h.size,fun k o _ f _=>(h.block k (aah.1 f).1).trans f⟩,h.mono hn,fun k f=>h.block k (hO k f)⟩
def ju.grown {row:Option Nat} (h:W.grownBy b row) (hn:R<=W) (hO: ∀k,O k->k<W.heap.size) (a: ∀g,row=some g->R<=g/\ ¬O g/\ ∃o,W.heap[g]? =some o/\o.isCells=true):ju B R O W b:=
 ⟨⟨h.size,fun k o _ f ho=>(h.block k (aah.1 f).1 fun e=>by obtain⟨_,_,c,h2,N⟩:=a k e.symm;rw[h2] at f;cases f;rw[N] at ho;cases ho).trans f⟩,
  ⟨h.os,h.tape,h.output,h.size,fun k f=>h.block k oG fun e=>by have:=(a k e.symm).1;omega⟩,fun k f=>h.block k (hO k f) fun e=>(a k e.symm).2.1 f⟩
def ju.set (W:World) (i:Nat) (u:Value) (hn:R<=g) (hO: ¬O g):ju B R O W (W.setCell (pA g i) u):=
 ⟨(KeepsOthers.setCell W _ u).from B,⟨rfl,rfl,rfl,by simp,fun k f=>fX W g i u k oG⟩,fun k f=>fX W g i u k fun e=>hO (e▸f)⟩
def ju.drew (h:ju B R O W b):ju B R O W b.drew:=⟨⟨h.kf.size,h.kf.same⟩,h.bl.drew,h.ok⟩
def OI.cells (h:OI lb w v l): ∀g,v.ownBlock=some g->lb<=g/\ ∃o,w.heap[g]? =some o/\o.isCells=true:=fun g F=>by
 rcases h.2 with ⟨E,-⟩|⟨g2,c2,S,E,h2,N,-⟩
 ·rw[E] at F;cases F
 ·rw[E] at F;cases F;exact⟨h2,_,N,rfl⟩
def OI.put {c k:Nat} (h:OI lb w (.slice g n c) l) (f:k<l) (z:Int):OI lb (w.setCell (pA g k) z) (.slice g n c) (l.set k z):=by
 refine⟨by simp,?_⟩
 rcases h.2 with ⟨E,-⟩|⟨g2,c2,S,E,h2,N,d,i,j,m⟩
 ·cases E
 ·cases E;refine .inr ⟨g,c,S.setIfInBounds k z,by rw[jt],h2,heap_setCell_same w g k S _ _ N,by rw[jt];exact d,i,by simpa using j,?_⟩;rw[vY,jt,Vg,m,Xk]
def H7 (x:fS) (A1:Option Addr) (c1:Nat) (A2:Option Addr) (c2:Nat) (Ad:Option Addr) (cd:Nat) (d:Dy) (U:Value) (tw:Bool) (fv:Value) (ai:Int) (lv ev:Value) (z q:Int) (w:World) (hx:iz w (.agg (xC x A1 c1 A2 c2).toArray) x) (ho:ga x) (hd:RL 1 jf w (.slice Ad d cd) d)
  (f:jS x.eB 4000 d) (aX:vt w d U tw fv lv ev) (aC: ∀v∈[U,fv,lv,ev],∀g,v.ownBlock=some g->g<w.heap.size):
  Calls prog 336 #[.agg (nD x A1 c1 A2 c2 Ad d cd U tw fv ai lv ev).toArray,.agg #[z,q]] w fun e w'=>
   ∃cv L,e=.returned cv/\OI w w' cv L/\Below w w w':=by
 obtain⟨HX,HO,HD,HK,bO,aN⟩:=Zf hx ho hd f aX aC;clear hx ho hd f aX aC;refine(callsIn_wide (n:=4)).1 ?_;refine callsIn_of_wp_marks func336 rfl trivial ?_ rfl;simp only[ntmps336,gU,ff,fZ,Nat.reduceAdd,Nat.reduceSub,iq,ir,iX,iA,gQ,fY]
 gi_upto_region 3 with fail
 obtain⟨w1,aI,⟨e0,e1,e2,e3,-⟩,aR,aB⟩:=sk w [(375,nD x A1 c1 A2 c2 Ad d cd U tw fv ai lv ev),(84,[z,q]),(26,[()]),(3,[(-1:)])];simp only[Hk] at aI;rw[aI];replace aB:w1.heap.size=w.heap.size+1+1+1+1:=aB;clear aI;obtain⟨q0,q1,q2,q3,q4,q5,q6,q7,q8,q9,bE,bG,bH,-⟩:=e0.iY;simp only[Nat.reduceAdd] at q1 q2 q3 q4 q5 q6 q7 q8 q9 bE bG bH;have s0:=e1.c 0;have s1:=e1.c 1;gi_wp2;refine⟨trivial,callsIn_wide.2 ((Bu x A1 c1 A2 c2 Ad d cd U tw fv ai lv ev z q _).mono ?_)⟩;rintro e wB ⟨rfl,bk,bs,ak,bB⟩;have P:=aR.trans (ak.mono aR.size);have h2:=e2.below ak e2.lt;have N:=e3.below ak e3.lt;have az: ∀v∈[U,fv,lv,ev],FL (fun b=>(w1.heap.size<=b/\b<wB.heap.size)\/b<w.heap.size) v:=fun v hv g F=>.inr (aN v hv g F);have bW:Hid (mi w w1 (w1+1) w x A1 c1 A2 c2 Ad cd d U tw fv ai lv ev z q (fun b=>w1.heap.size<=b/\b<wB.heap.size) wB):=zH
  ⟨P,bk,bs,bO.below P lE,⟨lE,oG⟩,⟨oG,oG⟩,az _ sI,az _ sI,az _ sI,az _ sI,fun k h=>h.2⟩
 have cH:=zH bB;have cP:w1.heap.size<=wB.heap.size:=ak.size;have cG:=zH aB;have aY:w.heap.size+4<=w1.heap.size:=oG;clear aB az bk bs ak bB q0 q1 q2 q3 q4 q5 q6 q7 q8 q9 bE bG bH s0 s1 e0 e1 e2 e3;gi_wp2;refine(qL oG (gf:=337) (lb:= #[.pointer (pB (w1+1)),.pointer w1]) rfl (enters_of func337 kR rfl)
  (xu w w1 (w1+1) w x A1 c1 A2 c2 Ad cd d U tw fv ai lv ev z q 4000 HX HO HD HK oG rfl) P.size (fun s O W x h=>by obtain⟨t,p,m,rfl,-⟩:=h;rfl)
  (DY w) DY.ab (DY.bk P.size) (fun b=>w1.heap.size<=b/\b<wB.heap.size) (fun k h=>h.2) (fun W F=>bW.below ⟨F.os,F.tape,F.output,F.size,fun k f=>F.block k f sI⟩ P.size)
  ⟨fun k h=>eZ aY h.1,P,(),[],-1,h2,OI.jL _ _,(fun g h=>by simp[Value.ownBlock] at h),N,lE,by simp,fun h=>absurd rfl h⟩ ?round ?done)
 case round=>
  intro m l s O x' W K hI cg hO cC G;obtain⟨t',p',C,rfl,bh,cD⟩:=cg;have cR:(0:Int)<=t':=by rcases bh.at_ with ⟨k,u,j,rfl,-⟩|⟨rfl,-⟩ <;>omega
  have cA:=HK.wt;have cO:s<=4000:=eZ cD cA;have aP:DY w s O (W.alloc (cB 380 (vm t' p' C))):=DY.ab s O O _ _ hI (gI.alloc O W _) (fun k f=>⟨.inl f,bP (hO k f) sI⟩);have aO:ju wB w O W (W.alloc (cB 380 (vm t' p' C))):=⟨(KeepsOthers.alloc _ _).from _,(bS _ W).alloc (eZ P.size cC) _,fun k f=>((bS _ W).alloc lE _).block k (hO k f)⟩;have I:=fc.new W 380 (vm t' p' C);obtain⟨aK,aJ,aM⟩:=Zc aP aO I;clear bh hI aP aO I h2 N;gi_wp2;refine G _ _ aJ (fun m l V ag cN aF=>?_);have I:=aF _ (rR.ig W 380 (vm t' p' C)) aM;obtain⟨E,hb,cv,L,r,g2,ae,Q,g3,hl,ah,hn⟩:=aF _ (DY.bk P.size s O) aK;obtain⟨Ac,cc,rfl,-⟩:=ae.slice;obtain⟨H,af⟩:=Zb ae Q;have lN:=I.lt;have l2:=g2.lt;have l3:=g3.lt;have R:=I.c 0;have n2:=I.c 2;have c2:=g2.c 0;have c3:=g3.c 0;clear aK aM aJ aF ae Q
  gi_upto_if 15 with fail
  gi_cut [] from 12 (fun wx=> ∃(Ax:Option Addr) (cx:Nat) (M:List Int) (lx:Int),fc wx (w+1+1) 26 [.slice Ax M cx]/\Hid (OI (w+4) wx (.slice Ax M cx) M)/\Hid (∀g,(Value.slice Ax M cx).ownBlock=some g-> ¬O g)/\
   fc wx (w+1+1+1) 3 [lx]/\fc wx W 380 (vm t' p' C)/\M.length<=s+1/\M.length<=4001/\M≠[]/\Hid (ju wB w O V wx)/\V.heap.size<=wx)
  case first=>
   by_cases aA:t'=r
   ·subst aA;gi_wp2_with fail;gi_meet;exact⟨Ac,cc,L,t',g2,H,af,g3,I,oG,ah,hn oG,(ju.refl _ _ _ _),lE⟩
   ·gi_upto_region 6 with fail
    refine xx (fun wS=>wS.cell? W=some t'/\wS.cell? (pA W 2)=some C) [] kR kR ?_ (fun hS=>?_)
    ·exact⟨R,n2⟩
    refine kL [1,2,5,6] ?_;refine pU ?_;refine mL 0 3 rfl rfl rfl rfl kR (fun K G=>?_) (fun K G=>?_)
    ·go_simp;refine G _ _ (hS) ?_;refine tO 3 fun K G=>?_;go_simp;have bV:=(fc.new V 3 [C]).drewN 1;have a:Below V V ((V.alloc (cB 3 [C])).drew):=(bL bF _).drew;revert bV a;show∀(bV:fc ((V.alloc (cB 3 [C])).drew) _ _ _),_;generalize (V.alloc (cB 3 [C])).drew=W4;intro bV a;have aZ:=a.size;exact Rp
    ·go_simp;have bV:=(fc.new V 3 [C]).drewN 1;have a:Below V V ((V.alloc (cB 3 [C])).drew):=(bL bF _).drew;revert bV a;show∀(bV:fc ((V.alloc (cB 3 [C])).drew) _ _ _),_;generalize (V.alloc (cB 3 [C])).drew=W4;intro bV a;have aZ:=a.size;refine G _ _ (⟨a7 a lE R,a7 a lE n2⟩) ?_;have c24:W4.cell? (pB (w+1+1))=some (.slice Ac L cc):=a7 a lE c2;refine tO 0 fun K G=>?_;go_simp;exact Rp
  case rest=>
   obtain⟨Ax,cx,M,lx,f2,HM,aL,f3,fN,cM,cF,cw,bJ,cQ⟩:=hcut;clear c2 c3 R n2 g2 g3 I H af hn;obtain⟨k,f⟩: ∃k,M.length=k+1:=⟨M.length-1,by have:=jQ.2 cw;omega⟩;obtain⟨g,rfl,fz⟩: ∃g,Ax=some ⟨g,0,none⟩/\wc.frozen? (pA g k)=false:=by
    rcases HM.2 with ⟨-,h⟩|⟨g,c,S,h,-,N,-⟩
    ·omega
    ·cases h;exact⟨g,rfl,by simp[World.frozen?,N]⟩
   obtain⟨zl,cE⟩:=ec (l:=M) (i:=k) oG;have cz:wc.cell? (pA g k)=some zl:=by obtain⟨A,c,hA,-,-,hc⟩:=gx.open_ HM.reads;obtain⟨b,o,hb,-,y⟩:=hc k zl cE;cases hA;cases hb;simpa using y
   rw[f] at f2;have c2:=f2.c 0;have n2:=fN.c 2;have hw:IntKind.i64.wrap (k:Int)=k:=by rw[jB];omega
   have cJ:(0:Int)<=k:=oG;have cK:(k:Int)<(k:Int)+1:=oG
   gi_upto_region 7 with fail
   refine xx (fun wS=>wS.cell? (pB (w+1+1))=some (.slice g (k+1) cx)/\wS.cell? (pA g k)=some zl/\wS.cell? (pA W 2)=some C) [14] kR kR ?_ (fun hS=>?_)
   ·exact⟨c2,cz,n2⟩
   refine kL [0,1,2,3,4,5,6,7,8,9,10,11,12,13] ?_;refine tL 14 fun K G=>?_;go_simp;refine G _ _ ?_;refine tD ?_;gi_wp2;have cI:w.heap.size+4<=g:=(HM.cells g rfl).1;have cj:=aL g rfl;have aQ:=HM.put (k:=k) oG (min zl C);have aW:(M.set k (min zl C)).length=k+1:=by rw[jt,f]
   have aT:=(bJ.out.trans (ju.set wc k (.int .i64 (min zl C)) oG cj)).drew;refine⟨aT,fun q hq=>E q hq,hb.trans aT.bl,.slice g (k+1) cx,M.set k (min zl C),lx,?_,?_,aL,?_,oG,oG,fun _ h=>by rw[h] at aW;cases aW⟩
   ·exact f2.kj (p:=pA g k) dO _
   ·rw[f] at aQ;exact aQ
   ·exact f3.kj (p:=pA g k) dO _
 case done=>intro D s O W hD hI aG;obtain⟨E,hb,cv,L,r,g2,ae,Q,g3,hl,ah,hn⟩:=hI;obtain⟨Ac,cc,rfl,-⟩:=ae.slice;have c2:=g2.c 0;have l2:=g2.lt;have l3:=g3.lt;have H:=zH ae;clear ae Q hn E;gi_wp2;refine⟨trivial,callsIn_wide.2 ((zm _ _ L W H oG).mono ?_)⟩;rintro e w5 ⟨rfl,T,B⟩;have bU:=zH T;have J:=B.ig g2 dE;have c25:=J.c 0;have aU:w5.heap[D]? =some (.deferred (some [])):=(B.block D (aah.1 aG).1 (.inr fun cs fr e=>by rw[aG] at e;cases e)).trans aG;have aS:=hb.trans ((B.below oG).mono oG);obtain⟨aD,bI⟩:=Zb aU aS;clear T B aU aS;gi_wp2;refine⟨by simp,.inl ⟨_,_,rfl,run_takeDeferred aD,?_⟩⟩;have aV:OI w (w5.putObj D (.deferred none)) (.slice Ac L cc) (qU L):=OI.mono (lb:=w.heap.size+4) (ownsRow_putObj bU _ aD rfl) oG;exact⟨_,results_tmp rfl _ _ _,.slice Ac L cc,qU L,rfl,aV,po bI lE (by have:=P.size;omega) aD⟩
end
section
open Go.Proofs.Tryz
open Go.RowKit Go.Shelf jm ko kN J8
theorem Rm{p:Prop}(h:p:=by gi_wp2;refine⟨⟨j+1,oG,(C.kj (p:=pA (W+1) 4) dO _),(m.gH 4 _),(f.out.set (g:=W.heap.size+1) K.out (by have:=f.out.bl.size;omega) (by rw[o.out];exact .inr ⟨oG,oG⟩) oG 4 _),(fun b a=>(fX _ _ _ _ _ (by have:=I.out.lt b a;omega)).trans (A.out b a))⟩,?_⟩;rw[yE (r.cell 4),yE ((m.gH 4 ((j:Int)+1:)).cell 4)];omega):p:=h
attribute [local go_sem] iO
variable {J:Jt} {w0:World} {c:Nat}
def MA (w:World) (g i:Nat):Nat:=match w.cell? (pA g i) with
 |some (.int _ z)=>z.toNat
 |_=>0
def yE {i:Nat} {z:Int} {k:IntKind} (h:w.cell? (pA g i)=some (.int k z)):MA w g i=z.toNat:=by unfold MA;rw[h]
abbrev qo (k a b i j:Int):List Value:=[k,a,b,i,j]
def VI (d:Dy):Vi:=fun _ _ _ x=> ∃(k i j:Int) (a b:Nat),x= #[.agg (qo k a b i j).toArray]/\a<d/\b<d
structure yv (n0:Nat) (w0:World) (J:Jt) (O:Nat->Prop) (W w:World):Prop where
 j: ∃s,J s O w
 bl:Below n0 w0 w
 lt: ∀k,O k->k<w.heap.size
 sz:W.heap.size<=w
def yv.step {O':Nat->Prop} (h:yv c w0 J O W w) (L:Ms J) (e:gI O w w') (hn:c<=w) (a:Below c w w') (d: ∀k,O' k->(O k\/w.heap.size<=k)/\k<w'.heap.size):yv c w0 J O' W w':=by obtain⟨s,hj⟩:=h.j;exact⟨⟨s,L s O O' w w' hj e d⟩,h.bl.trans a,fun k b=>(d k b).2,eZ h.sz a.size⟩
def yv.below (h:yv c w0 J O W w) (L:Ms J) (hn:c<=w) (a:Below w w w'):yv c w0 J O W w':=
 h.step L (gI.ke a) hn (a.mono hn) fun k b=>⟨.inl b,bP (h.lt k b) a.size⟩
def yv.set (h:yv c w0 J O W w) (L:Ms J) (hn:c<=w) (d:O g) (a:c<=g) (i:Nat) (u:Value):yv c w0 J O W (w.setCell (pA g i) u):=
 h.step L (gI.set w d i u) hn ((bS _ w).setCell (p:=pA g i) a u) fun k b=>⟨.inl b,by simpa using h.lt k b⟩
def I6 (c:Nat) (w0:World) (dv:Value) (d:Dy) (hd:RL 1 jf w0 dv d) (s: ∀t∈d,t.length<=1000000) (aN:c=w0) (n l:Nat) (hn:1<=n) (J:Jt) (L:Ms J) (hY:Kg prog l c (VI d) J) (O:Nat->Prop) (W:World) (h0:yv c w0 J O w0 W)
  (k:Int) (u v:Nat) (aC:u<d) (aD:v<d):
  CallsIn Fence.wide n prog 326 #[.agg #[dv],.agg (qo k u v 0 0).toArray,.func (.yield l) #[] #[]] W
   fun e W'=>e=.returned true/\ ∃O',(∀b,O b->O' b)/\yv c w0 J O' w0 W'/\ ∀b,O b->W'.heap[b]? =W.heap[b]? :=by
 obtain⟨Ad,S,rfl,aY,aZ,U⟩:=iK.open_ hd;obtain⟨ta,Y⟩:=ec aC;obtain⟨tb,Z⟩:=ec aD;obtain⟨w,H,rfl,aJ,bO,N,ya⟩:=U u ta Y;obtain⟨b2,o2,e2,-,bU,P,yb⟩:=U v tb Z;cases e2;obtain⟨Aa,ca,rfl,aV,aW,-⟩:=fQ.open_ N;obtain⟨Ab,cb,rfl,F,aX,-⟩:=fQ.open_ P;have bh:=s ta (a8 Y);have bB:=s tb (a8 Z);have az:c<=W.heap.size:=by have:=h0.bl.size;omega
 have aU:w<W.heap.size:=oG;have YA:Hid (w0.cell? (pA w (H+u))=some (.slice Aa ta ca)):=zH ya;have YB:Hid (w0.cell? (pA w (H+v))=some (.slice Ab tb cb)):=zH yb;obtain⟨HD,HL,K,HY,I,aj⟩:=Zf hd s L hY h0 aN;clear hd s L hY h0 U N P Y Z ya yb aJ;obtain⟨z,aw⟩: ∃z:Nat->Prop,z=fun b=>O b\/W.heap.size<=b/\b<W.heap.size+2:=⟨_,rfl⟩;have o:=zH aw;have HI:Hid (∀w',Below W W w'->W.heap.size+2<=w'->yv c w0 J z w0 w'):=zH fun w' a h2=>I.step K (gI.ke a) az (a.mono az) fun b aA=>by
  rw[o.out] at aA
  rcases aA with h|h
  ·exact⟨.inl h,by have:=I.out.lt b h;omega⟩
  ·exact⟨.inr h.1,oG⟩
 clear aw;refine callsIn_of_wp func326 rfl trivial ?_ rfl;simp only[ntmps326,gU,ff,fZ,Nat.reduceAdd,Nat.reduceSub,iq,ir,iX,iA,gQ,fY];gi_wp2;have bD:=(fc.new W 39 [.slice (pA w H) d S]).alloc (cB 320 (qo k u v 0 0));have bM:=fc.fW (W.alloc (cB 39 [.slice (pA w H) d S])) 320 (qo k u v 0 0) (g:=W.heap.size+1) sI;have F:=bL (bL (bS W W) (cB 39 [.slice (pA w H) d S])) (cB 320 (qo k u v 0 0));have aE:W.heap.size+2<=((W.alloc (cB 39 [.slice (pA w H) d S])).alloc (cB 320 (qo k u v 0 0))).heap.size:=sI;gi_loopw [] (fun wr=> ∃(i:Nat) (j:Int),i<=ta.length+1/\fc wr W 39 [.slice (pA w H) d S]/\fc wr (W+1) 320 (qo k u v i j)/\Hid (yv c w0 J z w0 wr)/\Hid (∀b,O b->wr.heap[b]? =W.heap[b]?)) (fun wr=>ta.length+1-MA wr (W+1) 3)
 case atStart=>exact⟨0,0,eC _,bD,bM,(HI _ F aE),(fun b a=>F.block b (I.lt b a))⟩
 case round=>
  obtain⟨i,j,hi,R,y,af,ai⟩:=hrel;clear bD bM F aE;have lD:=R.lt;have lM:=y.lt;have aS:=a7 af.out.bl (by have:=aj.out;omega) YA.out;have aL:w<wr.heap.size:=oG;obtain⟨m0,m1,m2,m3,m4,-⟩:=y.iY;have e0:=R.c 0
  gi_upto_region 2 with fail
  refine wpIn_wide.2 ?_;refine rB [] fun hS=>?_;refine kL [0,1,2,3,4,5,6,7,8,9,10] ?_;refine pU ?_;refine qi kR ?_;unfold oB;clear hS;have ae:=zH (af.below K oG (bS _ wr).drew);have mF:=y.drew.frozen 4;have aR:wr.drew.cell? (pA (W+1) 4)=some j:=m4;by_cases bE:i<=ta
  ·gi_wp2;have ak:=R.drew.kj (p:=pA (W+1) 4) dO Zo;have aq:=y.drew.gH 4 Zo;have aa:=zH (ae.set (g:=W.heap.size+1) K (by show c<=wr;omega) (by rw[o.out];exact .inr ⟨by omega,by omega⟩) oG 4 Zo);have ag:Hid (∀b,O b->(wr.drew.setCell (pA (W+1) 4) Zo).heap[b]? =W.heap[b]?):=zH (fun b a=>(fX _ _ _ _ _ (by have:=I.out.lt b a;omega)).trans (ai.out b a));obtain⟨wo,aO⟩:=nE (wr:World);subst aO;gi_loopw [] (fun wr=> ∃(j:Nat),j<=tb.length+1/\fc wr W 39 [.slice (pA w H) d S]/\fc wr (W+1) 320 (qo k u v i j)/\Hid (yv c w0 J z w0 wr)/\Hid (∀b,O b->wr.heap[b]? =W.heap[b]?)) (fun wr=>tb.length+1-MA wr (W+1) 4)
   case atStart=>exact⟨0,eC _,ak,aq,aa,ag⟩
   case round=>
    obtain⟨j,hj,B,r,x,ah⟩:=hrel;clear ak aq aa ag m0 m1 m2 m3 m4 e0 aS mF aR;have aP:=B.lt;have aQ:=r.lt;have hq:=x.bl.size;have hN:=aj.out;have aT:=a7 x.bl oG YB;obtain⟨m0,m1,m2,m3,m4,-⟩:=r.iY;have e0:=B.c 0;have aL:w<wr.heap.size:=oG
    gi_upto_region 5 with fail
    refine wpIn_wide.2 ?_;refine rB [] fun hS=>?_;refine kL [0,1,2,3,4,5,6,7,8,9,10] ?_;refine pU ?_;refine qi kR ?_;unfold oB;clear hS;by_cases bG:j<=tb
    ·gi_upto_region 7 with fail
     gi_cut [9] from 42 (fun ov wc=> ∃ok:Bool,ov=.bool ok/\Below wr wr wc)
     case first=>
      refine wpIn_wide.2 ?_;go_wp2_with fail;refine(xU _ d k u v i j _ (iK.below HD (x.bl.drew) oG) HL).mono ?_;rintro e Q ⟨r1,r2,ok,rfl,hr,aK⟩;have M:=(bS _ wr).drew.trans (aK.mono (by show wr.heap.size<=wr;omega));obtain⟨R1,D⟩:=nR (kJ r1);obtain⟨R2,E⟩:=nR (kJ r2);have n1:=lC r1;have n2:=lC r2;have a1:=oU r1;have a2:=oU r2;rw[D,hr.o1.1] at n1;rw[E,hr.o2.1] at n2;rw[D] at a1;rw[E] at a2;rw[D,E];have I1:=zH (show(prog.info? 355).map (·.size)=some R1.length by rw[n1];exact gZ);have I2:=zH (show(prog.info? 355).map (·.size)=some R2.length by rw[n2];exact gZ);obtain⟨N1,N2,aF,aG⟩:=Zd n1 n2 a1 a2;clear n1 n2 a1 a2 D E hr;go_wp2_with (first
       |(refine fH _ rfl 355 (.tmp 7) (.tmp 46) rfl Q 355 gO R1 ((fc.fW Q 355 gO (g:=Q.heap.size) rfl).alloc _) rfl rfl I1 N1.symm aF ?_;intro w3 b3 V bI)
       |(refine fH _ rfl 355 (.tmp 8) (.tmp 47) rfl (Q+1) 355 gO R2 ((fc.fW (Q.alloc (cB 355 gO)) 355 gO (g:=Q.heap.size+1) sI).grown V sI) rfl rfl I2 N2.symm aG ?_;intro w4 b4 aM bJ))
      gi_meet;exact⟨ok,rfl,M.trans ((((bL (bL (bS Q Q) (cB 355 gO)) (cB 355 gO)).grown V sO (fun q hq=>by cases hq;omega)).grown aM (by have:=V.size;simp at this;omega) (fun q hq=>by cases hq;omega)).mono M.size)⟩
     case rest=>
      obtain⟨ok,rfl,G⟩:=hcut;have C:=B.below G aP;have m:=r.below G aQ;have f:=zH (x.below K oG G);have A:Hid (∀b,O b->wc.heap[b]? =W.heap[b]?):=zH (fun b a=>(G.block b (by have:=I.out.lt b a;omega)).trans (ah.out b a));clear m0 m1 m2 m3 m4 e0 aT;obtain⟨m0,m1,m2,m3,m4,-⟩:=m.iY;have mF:=m.frozen 4;cases ok
      ·gi_upto_region 8 with fail
       refine wpIn_wide.2 ?_;go_wp2_with fail;exact Rm
      ·have bH:=f.bl.size;obtain⟨s1,aB⟩:=f.j;obtain⟨fn,tmps,assign,body,hy,hR⟩:=HY (n-1) s1 z #[.agg (qo k u v i j).toArray] wc aB ⟨k,i,j,u,v,rfl,aC,aD⟩;clear aB;gi_wp2;refine hR.mono ?_;rintro e W7 ⟨rfl,aH,T,X⟩;have aI:z W.heap.size:=by rw[o.out];exact .inr ⟨oG,oG⟩
       have ay:z (W+1):=by rw[o.out];exact .inr ⟨oG,oG⟩
       replace C:fc W7 W 39 [.slice (pA w H) d S]:=(X _ aI).trans C;replace m:fc W7 (W+1) 320 (qo k u v i j):=(X _ ay).trans m;replace A:Hid (∀b,O b->W7.heap[b]? =W.heap[b]?):=zH (fun b a=>(X b (by rw[o.out];exact .inl a)).trans (A b a));replace f:Hid (yv c w0 J z w0 W7):=zH ⟨⟨_,aH⟩,f.bl.trans T,fun q hq=>by have h1:=f.lt q hq;exact bP h1 T.size,eZ f.sz T.size⟩;clear m0 m1 m2 m3 m4 mF;obtain⟨m0,m1,m2,m3,m4,-⟩:=m.iY;have mF:=m.frozen 4;exact Rm
    ·have mF:=r.frozen 3;gi_wp2;refine⟨⟨i+1,j,oG,(B.kj (p:=pA (W+1) 3) dO _).drew,(r.gH 3 _).drew,((x.out.set (g:=W.heap.size+1) K.out oG (by rw[o.out];exact .inr ⟨oG,oG⟩) oG 3 _).below K.out sO bF.drew),(fun b a=>(fX _ _ _ _ _ (by have:=I.out.lt b a;omega)).trans (ah.out b a))⟩,?_⟩;rw[yE (y.cell 3),yE ((r.gH 3 ((i:Int)+1:)).drew.cell 3)];omega
  ·gi_wp2;refine bodyPost_ret (results_tmp rfl _ _ _) rfl ?_;exact⟨rfl,z,fun b a=>by rw[o.out];exact .inl a,ae,ai⟩
end
section
open Go.Proofs.Tryz
open Go.RowKit Go.Shelf jm ko kN J8
attribute [local go_sem] iO
structure VW (n0 db:Nat) (w0:World) (dv:Value) (O:Nat->Prop) (W:World):Prop where
 bl:Below n0 w0 W
 lt: ∀k,O k->k<W.heap.size
 d:fc W db 39 [dv]
 o:O db
def F6 (m f:Nat) (w0:World) (dv:Value) (d:Dy) (R:RL 1 jf w0 dv d) (o: ∀t∈d,t.length<=1000000) (T:m=w0):
  zO prog 324 #[.pointer f] m (VI d) (VW m f w0 dv):=by
 intro n l J O W hn c hJ hY h0;obtain⟨H,I,rfl,ae,af,-⟩:=iK.open_ R;obtain⟨HD,HL,V,HY,L⟩:=Ze R o hJ hY T;have Q:m<=W.heap.size:=by have:=c.bl.size;omega
 have U:Hid (yv m w0 J O w0 W):=zH ⟨⟨0,h0⟩,c.bl,c.lt,by have:=c.bl.size;omega⟩;have N:=c.d;have hO:=zH c.o;have lD:=N.lt;clear R o hJ hY h0 c;refine callsIn_of_wp func324 rfl trivial ?_ rfl;simp only[ntmps324,gU,ff,fZ,Nat.reduceAdd,Nat.reduceSub,iq,ir,iX,iA,gQ,fY];gi_wp2;refine⟨trivial,callsIn_wide.2 ((Bi _).mono ?_)⟩;rintro e w1 ⟨rfl,E⟩;generalize Value.agg _=kv;have y:=N.below E lD;have w:=zH (U.below V Q E);gi_wp2;gi_loopw [7] (fun h wr=> ∃(i:Nat) (g:Nat->Prop),i<=4/\h=.int .i64 i/\Hid (yv m w0 J g w0 wr)/\Hid (g f)/\fc wr f 39 [.slice H d I]) (fun h _=>4-(intOf h).toNat)
 case atStart=>exact⟨0,O,oG,rfl,w,hO,y⟩
 case round=>
  obtain⟨i,g,hi,rfl,p,C,r⟩:=hrel;clear U w N y hO lD;have z:=r.c 0;by_cases S:i<4
  ·have aa:decide ((i:Int)<4)=true:=by simp;omega
   gi_wp2;gi_loopw [13] (fun h wr=> ∃(a:Nat) (g:Nat->Prop),a<=d/\h=.int .i64 a/\Hid (yv m w0 J g w0 wr)/\Hid (g f)/\fc wr f 39 [.slice H d I]) (fun h _=>d.length-(intOf h).toNat)
   case atStart=>exact⟨0,g,oG,rfl,p,C,r⟩
   case round=>
    obtain⟨a,X,ha,rfl,q,u,j⟩:=hrel;clear p C r z;have z:=j.c 0;by_cases F:a<d
    ·gi_wp2;gi_loopw [19] (fun h wr=> ∃(b:Nat) (g:Nat->Prop),b<=d/\h=.int .i64 b/\Hid (yv m w0 J g w0 wr)/\Hid (g f)/\fc wr f 39 [.slice H d I]) (fun h _=>d.length-(intOf h).toNat)
     case atStart=>exact⟨0,X,oG,rfl,q,u,j⟩
     case round=>
      obtain⟨b,Y,hb,rfl,x,v,k⟩:=hrel;clear q u j z;have z:=k.c 0;by_cases G:b<d
      ·gi_wp2;refine⟨trivial,callsIn_wide.2 (callsIn_wide.1 (CallsIn.mono (I6 m w0 _ d HD HL L 1 l lE J V HY Y wr x i a b F G) ?_))⟩;rintro e w5 ⟨rfl,Z,D,A,B⟩;have P:fc w5 f 39 [.slice H d I]:=(B f v).trans k;have K:=zH A;have M:Hid (Z f):=zH (D f v);clear A B D k z;gi_wp2;exact⟨⟨b+1,Z,G,rfl,K,M,P⟩,by simp[intOf];omega⟩
      ·gi_wp2;exact⟨⟨a+1,Y,F,rfl,x,v,k⟩,by simp[intOf];omega⟩
    ·gi_wp2;exact⟨⟨i+1,X,S,rfl,q,u,j⟩,by simp[intOf];omega⟩
  ·gi_wp2;refine bodyPost_end (results_none rfl _ _ _) rfl ?_;obtain⟨s,hj⟩:=p.j;exact⟨⟨_,rfl⟩,s,g,hj⟩
end
section
open Go.Proofs.Tryz
open Go.RowKit Go.Shelf jm ko kN J8 B4
attribute [local go_sem] iO
variable {P:Program} {Q:Exit->Act->World->Prop} {a:Act} {o:Oper}
def Kz (Ad:Option Addr) (n cd:Nat) (w:World):
  Calls prog 310 #[.agg #[.slice Ad n cd]] w fun e w'=>e=.returned (.func (.func 324) #[] #[.pointer w])/\fc w' w 39 [.slice Ad n cd]/\Below w w w'/\w'.heap.size=w.heap.size+1:=by
 go_enter func310,ntmps310;go_wp2;go_ret;exact⟨rfl,fc.new w _ _,bL bF _,by simp⟩
def Dg:(prog.info? 320).map (·.size)=some 5:=kR
inductive PK (w:World) (e:Ending) (w':World):Prop
 |mk (k a b i j l:Int) (s:Bool) (he:e=.returned (.tuple #[.agg (qo k a b i j).toArray,l,s])) (hb:Below w w w')
def tN {K:Act->World->Prop} (w:World) (ty:TypeId) (x:Operand) (ho:o.op=.load ty x) (g:Nat) (t:TypeId) (cs:List Value) (d:TypeDesc) (hx:a.eval x=.pointer g) (hb:fc w g t cs)
  (i:P.underlying ty=some d) (hd:d.isRow=true) (b:(P.info? ty).map (·.size)=some cs) (h:K (a.put o.dst (.agg cs.toArray)) w):o.wp P a w K Q:=by
 unfold Oper.wp;rw[nK w ty x ho g t cs d hx hb i hd b];exact h
def FD {b:Array Oper} {rest:List Oper} (c:Region.wanted o (yielded b a.tmps)=true)
  (h: ∀K:Act->World->Prop,(∀a w,wpList P b Q rest a w->K a w)->o.wp P a w K Q):wpList P b Q (o::rest) a w:=wpList_step fun K y=>by rw[if_pos c];exact h K y
def Gu {j:Func} {p r s:Tmp} {ty:TypeId} (h:j.results= #[.cell p ty,.tmp r,.tmp s]) (tmps:Array Value) (w:World) (g:Nat) (t:TypeId) (cs:List Value) (d:TypeDesc) (u v:Value)
  (k:tmps.getD p undef=.pointer g) (L:tmps.getD r undef=u) (e:tmps.getD s undef=v) (J:fc w g t cs)
  (i:P.underlying ty=some d) (hd:(match d with| .struct _| .array _ _=>true|_=>false)=true) (b:(P.info? ty).map (·.size)=some cs):
  (results j tmps).run P w=.ok (.tuple #[.agg cs.toArray,u,v]) w:=by
 have a:tmps[p]?.getD undef=.pointer g:=by simpa using k
 have c:tmps[r]?.getD undef=u:=by simpa using L
 have f:tmps[s]?.getD undef=v:=by simpa using e
 simp[results,h,a,c,f,asAddr,run_loadVar_row w g t ty cs.toArray (0,0) d J i hd (by simpa using b)]
def yn {r m id:Nat} {l:List Oper} (c:IQ l.toArray=true) (h:wpList P l.toArray (oB Q) l a w):(Code.region id l.toArray false).wpIn (Fence.wide.inRound r) m P Q a w:=
 wpIn_mono (wpIn_region_lit (FE VK l (fun o ho=>by obtain⟨i,b⟩:=gz.1 ho;exact IU c (by simpa using b)) a w h)) x9
def FI (w1:World) (g rb b8 b9 b:Nat):Jt:=fun _ O W=>
 ((∀k,O k->b<=k)/\b<=W)/\Below w1 w1 W/\fc W rb 347 [.pointer g]/\ ∃k a c i j l:Int,fc W b8 320 (qo k a c i j)/\fc W b9 3 [l]
section
variable {w1:World} {rb b8 b9 b:Nat}
def FI.bk {B:Nat} (e:w1.heap.size<=B) (s:Nat) (O:Nat->Prop):rR B (FI w1 g rb b8 b9 b s O):=fun A C row d J L=>by obtain⟨⟨h1,h6⟩,P,h3,k,a,c,i,j,l,h4,h5⟩:=d;exact⟨⟨h1,eZ h6 J.size⟩,rR.below e lE A C row P J L,rR.ig _ _ _ A C row h3 J L,k,a,c,i,j,l,rR.ig _ _ _ A C row h4 J L,rR.ig _ _ _ A C row h5 J L⟩
def FI.ab (f:w1.heap.size<=b) (L:rb<b) (m:b8<b) (n:b9<b):Ms (FI w1 g rb b8 b9 b):=fun s O p A B d e ho=>by
 obtain⟨⟨h1,h6⟩,P,h3,k,a,c,i,j,l,h4,h5⟩:=d;have hk: ∀q,q<b->q<A.heap.size->B.heap[q]? =A.heap[q]? :=fun q H o=>e.block q o fun h=>by have:=h1 q h;omega
 refine⟨⟨fun q H=>?_,eZ h6 e.size⟩,P.trans ⟨e.os,e.tape,e.output,e.size,fun q H=>hk q oG (by have:=P.size;omega)⟩,(hk _ L h3.lt).trans h3,k,a,c,i,j,l,(hk _ m h4.lt).trans h4,(hk _ n h5.lt).trans h5⟩
 rcases (ho q H).1 with h|h
 ·exact h1 q h
 ·omega
end
def Kl (xv dv:Value) (x:fS) (d:Dy) (K:Nat) (w:World) (hx:iz w xv x) (ho:ga x) (hd:RL 1 jf w dv d) (hk:jS x.eB K d) (y:K<=1000000):
  Calls prog 281 #[xv,.agg #[dv]] w (PK w):=by
 obtain⟨A1,c1,A2,c2,rfl⟩:=hx.agg;obtain⟨Ad,cd,rfl,bJ,bO,-⟩:=iK.open_ hd;obtain⟨HX,HO,HD,HK⟩:=Zd hx ho hd hk;have aa: ∀t∈d,t.length<=1000000:=fun t ht=>by have:=hk.Su ht;omega
 have HL:=zH aa;clear hx ho hd hk aa;refine(callsIn_wide (n:=4)).1 ?_;refine callsIn_of_wp_marks func281 rfl trivial ?_ rfl;simp only[ntmps281,gU,ff,fZ,Nat.reduceAdd,Nat.reduceSub,iq,ir,iX,iA,gQ,fY];gi_wp2;have ha:=bL (bL (bL (bS w w) (cB 25 (xC x A1 c1 A2 c2))) (cB 39 [.slice Ad d cd])) (cB 320 (qo 0 0 0 0 0));have bd:=(fc.fW (w.alloc (cB 25 (xC x A1 c1 A2 c2))) 39 [.slice Ad d cd] (g:=w.heap.size+1) sI).alloc (cB 320 (qo 0 0 0 0 0));have bm:=fc.fW ((w.alloc (cB 25 (xC x A1 c1 A2 c2))).alloc (cB 39 [.slice Ad d cd])) 320 (qo 0 0 0 0 0) (g:=w.heap.size+1+1) sI;refine⟨trivial,callsIn_wide.2 ((LG _ _ x d K _ (HX.below ha lE) HO (iK.below HD ha lE) HK y).mono ?_)⟩;rintro e w1 ⟨g,rfl,J,L,X⟩;have HR:=zH L;replace bd:=bd.below X bd.lt;replace bm:=bm.below X bm.lt;have A:=ha.trans (X.mono ha.size);have bH:w.heap.size+3<=w1.heap.size:=by have:=X.size;simpa using this
 clear L X ha J;have e0:=bd.c 0;have ld:=bd.lt
 gi_upto_region 3 with fail
 have br:=((fc.new w1 347 [.pointer g]).alloc (cB 320 (qo 0 0 0 0 0))).alloc (cB 3 [Zo]);have b8:=(fc.fW (w1.alloc (cB 347 [.pointer g])) 320 (qo 0 0 0 0 0) (g:=w1.heap.size+1) sI).alloc (cB 3 [Zo]);have b9:=fc.fW ((w1.alloc (cB 347 [.pointer g])).alloc (cB 320 (qo 0 0 0 0 0))) 3 [Zo] (g:=w1.heap.size+1+1) sI;have R:=bL (bL (bL (bS w1 w1) (cB 347 [.pointer g])) (cB 320 (qo 0 0 0 0 0))) (cB 3 [Zo]);revert br b8 b9 R;generalize ((w1.alloc (cB 347 [.pointer g])).alloc (cB 320 (qo 0 0 0 0 0))).alloc (cB 3 [Zo])=w2;intro br b8 b9 R;have l9:=b9.lt;replace e0:=a7 R lE e0;replace ld:=bP ld R.size;gi_wp2;refine⟨trivial,callsIn_wide.2 ((Kz Ad d cd w2).mono ?_)⟩;rintro e wB ⟨rfl,aD,S,cj⟩;have Y:=R.trans (S.mono R.size);have T:=A.trans (Y.mono A.size);have bG:=Y.size;have aN:=S.size;have bE:=aD.lt;replace br:=br.below S br.lt;replace b8:=b8.below S b8.lt;replace b9:=b9.below S b9.lt;have bY:RL 1 jf wB (.slice Ad d cd) d:=iK.below HD T lE;clear e0 ld S;gi_wp2;refine(qL oG (gf:=324) (lb:= #[.pointer w2]) rfl (enters_of func324 kR rfl)
  (F6 w w2 w _ d HD HL rfl) T.size (fun s O W x h=>by obtain⟨_,_,_,_,_,rfl,-⟩:=h;rfl)
  (FI w1 g w1 (w1+1) (w1+1+1) w2) (FI.ab oG oG oG oG) (FI.bk oG) (fun b=>b=w2.heap.size) (fun k h=>by omega)
  (fun W J=>⟨T.trans ⟨J.os,J.tape,J.output,J.size,fun k hk=>J.block k (by have:=T.size;omega) sI⟩,fun k h=>by have:=J.size;omega,(J.block _ bE sI).trans aD,rfl⟩)
  ⟨⟨fun k h=>oG,aN⟩,Y,br,0,0,0,0,0,0,b8,b9⟩ ?round ?done)
 case round=>
  intro m l s O x' W K hI aX hO aZ y;obtain⟨k,i,j,a,b,rfl,ha,hb⟩:=aX;have aw:=zH (FI.ab (w1:=w1) (g:=g) oG oG oG oG s O O _ _ hI (gI.alloc O W (cB 320 (qo k a b i j))) (fun q H=>⟨.inl H,bP (hO q H) sI⟩));have aq:Hid (ju wB w O W (W.alloc (cB 320 (qo k a b i j)))):=zH (ju.below ((bS _ W).alloc lE _) (eZ T.size aZ) hO);have ay:=zH (fc.new W 320 (qo k a b i j));clear hI;gi_wp2;refine y _ _ aq (fun m l W2 aF aN ah=>?_);have bN:=ah _ (rR.ig W 320 (qo k a b i j)) ay;obtain⟨⟨h1,h6⟩,P,h3,k',a',c',i',j',l',h4,h5⟩:=ah _ (FI.bk oG s O) aw;clear aw ay aq ah;have aC:=bd.below P bd.lt;have cA:=aC.lt;have e0:=aC.c 0;obtain⟨m0,m1,m2,m3,m4,-⟩:=bN.iY;have lN:=bN.lt
  gi_upto_region 5 with fail
  gi_cut [11,12,13] from 22 (fun p q o wc=> ∃(g1 g2:Nat) (r1 r2:List Pc) (ok:Bool),p=.pointer g1/\q=.pointer g2/\o=.bool ok/\fc wc g1 355 (kJ r1)/\fc wc g2 355 (kJ r2)/\lA d r1/\lA d r2/\W2.heap.size<=g1/\W2.heap.size<=g2/\Below W2 W2 wc)
  case first=>
   have aK:RL 1 jf W2 (.slice Ad d cd) d:=iK.below HD (A.trans (P.mono A.size)) lE;gi_wp2;refine⟨trivial,nF,n9 ((xU _ d k a b i j _ aK HL).mono ?_)⟩;rintro e wl ⟨r1,r2,ok,rfl,L,aH⟩;obtain⟨R1,U⟩:=nR (kJ r1);obtain⟨R2,V⟩:=nR (kJ r2);have n1:=lC r1;have n2:=lC r2;have a1:=oU r1;have a2:=oU r2;rw[U,L.o1.1] at n1;rw[V,L.o2.1] at n2;rw[U] at a1;rw[V] at a2;rw[U,V];have I1:=zH (show(prog.info? 355).map (·.size)=some R1.length by rw[n1];exact gZ);have I2:=zH (show(prog.info? 355).map (·.size)=some R2.length by rw[n2];exact gZ);obtain⟨N1,N2,aP,aQ,aS,aT,aB⟩:=Zg n1 n2 a1 a2 U V L;have ae:=aH.size;clear n1 n2 a1 a2 U V L aK;gi_wp2_with (first
    |(refine wpListIn_plain rfl fun K y=>Bp (fun c e=>by cases e) (gY _ 355 (.tmp 11) (.tmp 26) rfl wl 355 gO R1 ((fc.fW wl 355 gO (g:=wl.heap.size) rfl).alloc _) rfl rfl I1 N1.symm aP ?_);intro w3 b3 ai bZ;refine y _ _ ?_)
    |(refine wpListIn_plain rfl fun K y=>Bp (fun c e=>by cases e) (gY _ 355 (.tmp 12) (.tmp 27) rfl (wl+1) 355 gO R2 ((fc.fW (wl.alloc (cB 355 gO)) 355 gO (g:=wl.heap.size+1) sI).grown ai sI) rfl rfl I2 N2.symm aQ ?_);intro w4 b4 aM cg;refine y _ _ ?_))
   gi_meet;have aL:=ai.size;simp at aL;exact⟨_,_,r1,r2,ok,rfl,rfl,rfl,by rw[aS.out];exact b3.grown aM sI,by rw[aT.out];exact b4,aB.o1,aB.o2,ae,oG,
    aH.trans ((((bL (bL (bS wl wl) (cB 355 gO)) (cB 355 gO)).grown ai sO (fun q H=>by cases H;omega)).grown aM oG (fun q H=>by cases H;omega)).mono ae)⟩
  case rest=>
   obtain⟨g1,g2,r1,r2,ok,rfl,rfl,rfl,N,E,aj,ak,bU,bW,M⟩:=hcut;have I:=bN.below M lN;have v:=h3.below M h3.lt;have C:=h4.below M h4.lt;have u:=h5.below M h5.lt;have f:=P.trans (M.mono P.size);have Q:Hid (pI wc g x d):=zH (HR.below f lE);clear m0 m1 m2 m3 m4 e0;obtain⟨m0,m1,m2,m3,m4,-⟩:=I.iY;have e1:=v.c 0;have I1:Hid ((prog.info? 355).map (·.size)=some (kJ r1).length):=zH (by rw[lC,aj.1];exact gZ);have I2:Hid ((prog.info? 355).map (·.size)=some (kJ r2).length):=zH (by rw[lC,ak.1];exact gZ);obtain⟨az,aA⟩:=Zb aj ak;clear aj ak;have aO:=M.size;gi_wp2_with (first
    |(refine wpListIn_plain rfl fun K y=>Bp (fun c e=>by cases e) (tN _ 355 (.tmp 11) rfl g1 355 _ _ rfl N underlying355 rfl I1 ?_);refine y _ _ ?_)
    |(refine wpListIn_plain rfl fun K y=>Bp (fun c e=>by cases e) (tN _ 355 (.tmp 12) rfl g2 355 _ _ rfl E underlying355 rfl I2 ?_);refine y _ _ ?_))
   refine⟨trivial,nF,n9 ((Le g x d k i j a b r1 r2 _ Q az aA ha hb HL).mono ?_)⟩;rintro e w5 ⟨z,rfl,F⟩;replace I:=I.below F I.lt;replace v:=v.below F v.lt;replace C:=C.below F C.lt;replace u:=u.below F u.lt;replace N:=N.below F N.lt;replace E:=E.below F E.lt;replace Q:Hid (pI w5 g x d):=zH (Q.below F lE);replace f:=f.trans (F.mono f.size);have Z:=M.trans (F.mono aO);clear m0 m1 m2 m3 m4 e1;have e1:=v.c 0;have e9:=u.c 0;have l1:=v.lt;have cw:=u.lt
   gi_upto_region 7 with fail
   gi_cut [46] from 34 (fun s wx=> ∃b:Bool,s=.bool b/\Below w5 w5 wx)
   case first=>
    refine yn kR ?_;by_cases hz:z<l'
    ·go_wp2_with (refine FD (by rfl) fun K y=>tN _ 355 (.tmp 11) rfl g1 355 _ _ rfl N underlying355 rfl I1 (y _ _ ?_));refine(CH g x d r1 _ Q az HL).mono ?_;rintro e w6 ⟨f1,rfl,r⟩;cases f1
     ·go_wp2_with fail;unfold oB
      gi_wp2;gi_meet;exact⟨false,rfl,r⟩
     ·have e1:w6.cell? w1=some (.pointer g):=a7 r lE e1;have E:=E.below r E.lt;go_wp2_with (refine FD (by rfl) fun K y=>tN _ 355 (.tmp 12) rfl g2 355 _ _ rfl E underlying355 rfl I2 (y _ _ ?_));refine(CH g x d r2 _ (Q.below r lE) aA HL).mono ?_;rintro e w7 ⟨f2,rfl,aY⟩;go_wp2_with fail;unfold oB;gi_wp2;gi_meet;exact⟨f2,rfl,r.trans (aY.mono r.size)⟩
    ·go_wp2_with fail;unfold oB
     gi_wp2;gi_meet;exact⟨false,rfl,bS _ _⟩
   case rest=>
    obtain⟨bb,rfl,r⟩:=hcut;replace I:=I.below r I.lt;replace v:=v.below r v.lt;replace C:=C.below r C.lt;replace u:=u.below r u.lt;replace f:=f.trans (r.mono f.size);replace Z:=Z.trans (r.mono Z.size);have bh:=Z.size;have aV: ∀B,ju B w O W2 wc:=fun B=>ju.below Z oG aF;have aW: ∀q,O q->q<wc.heap.size:=fun q H=>bP (aF q H) bh;clear e1 e9 Q N E;cases bb
    ·gi_wp2;exact⟨⟨h1,oG⟩,f,v,_,_,_,_,_,_,C,u⟩
    ·obtain⟨m0,m1,m2,m3,m4,-⟩:=I.iY;have f9:=u.frozen 0;have e9:=u.c 0;gi_wp2_with (refine wpListIn_plain rfl fun K y=>Bp (fun c e=>by cases e) (gY _ 320 (.tmp 8) (.tmp 47) rfl (w1+1) 320 _ (qo k a b i j) C rfl rfl Dg rfl rfl ?_);intro w9 ag G bB;have q9:=u.grown (w':=w9) G sI;have c99:w9.cell? (pB (w1+1+1))=some l':=q9.cell 0;have bI:=q9.frozen 0;refine y _ _ ?_);have aU: ∀B,ju B w O W2 (w9.setCell (pB (w1+1+1)) z):=fun B=>(aV B).trans ((ju.grown G oG aW (fun q H=>by cases H;exact⟨oG,fun h=>by have:=h1 _ h;omega,_,C,rfl⟩)).trans (ju.set w9 0 _ oG (fun h=>by have:=h1 _ h;omega)));exact⟨aU _,⟨h1,by simp;omega⟩,(f.grown G oG (fun q H=>by cases H;omega)).setCell (p:=pB (w1+1+1)) dO _,(v.grown G sI).kj (p:=pB (w1+1+1)) dO _,_,_,_,_,_,_,ag.kj (p:=pB (w1+1+1)) dO _,q9.gH 0 _⟩
 case done=>
  intro D s O W hD hI aJ;obtain⟨⟨h1,h6⟩,P,h3,k,a,c,i,j,l,h4,h5⟩:=hI;have aE:=bm.below P bm.lt;have lm:=aE.lt
  gi_upto_region 9 with fail
  refine wpIn_wide.2 ?_;refine rG (fun wS=>fc wS (w1+1) 320 (qo k a c i j)/\fc wS (w1+1+1) 3 [l]) [] (⟨h4.drew,h5.drew⟩) fun hS=>?_;refine kL [0,1,2,3] ?_;refine tO 4 fun K y=>?_;refine gY _ 320 (.tmp 4) (.tmp 49) rfl (w+1+1) 320 _ (qo k a c i j) aE.drew rfl rfl Dg rfl rfl ?_;intro w9 ag G bB;have hS:fc w9 _ _ _/\fc w9 _ _ _:=⟨h4.drew.grown G (fun h=>by have:=fg h;omega),h5.drew.grown G (fun h=>by have:=fg h;omega)⟩;refine y _ _ (hS) ?_;refine kL [5,6] ?_;refine tD ?_;have aI:w9.heap[D]? =some (.deferred (some [])):=(G.block D (aah.1 aJ).1 (fun e=>by cases e;omega)).trans aJ;have aG:Below w w w9:=(A.trans (P.mono A.size)).drew.grown G (by have:=P.size;show w.heap.size<=W;omega) (fun q H=>by cases H;omega);obtain⟨af,aR⟩:=Zb aI aG;clear aI aG;gi_wp2;refine⟨by simp,.inl ⟨_,_,rfl,run_takeDeferred af,?_⟩⟩;exact⟨_,Gu rfl _ _ (w+1+1) 320 (qo k a c i j) _ l (.bool (decide (l<0))) rfl rfl rfl (pS ag af rfl _) underlying320 rfl Dg,⟨k,a,c,i,j,l,_,rfl,po aR lE (by have:=T.size;omega) af⟩⟩
end
section
open Go.Proofs.Tryz
open Go.RowKit Go.Shelf jm ko kN B4
def GS (x:fS) (A1:Option Addr) (c1:Nat) (A2:Option Addr) (c2:Nat) (H:Option Addr) (J:Nat) (d:Dy) (k:Value) (M:Bool) (A:Value) (o:Int) (G y sv:Value) (L:Tr) (w:World) (hx:iz w (.agg (xC x A1 c1 A2 c2).toArray) x) (ho:ga x) (hd:RL 1 jf w (.slice H d J) d)
  (hk:jS x.eB 4000 d) (E:vt w d k M A G y) (n: ∀v∈[k,A,G,y],∀g,v.ownBlock=some g->g<w.heap.size) (hs:RL 2 iH w sv L):
  Calls prog 319 #[.agg (nD x A1 c1 A2 c2 H d J k M A o G y).toArray,sv] w fun e w'=>
   ∃z:Int,e=.returned z/\ -1<=z/\z<L/\(L≠[]->0<=z)/\Below w w w':=by
 obtain⟨As,cs,rfl,aw,ay,F⟩:=fQ.open_ hs;obtain⟨HX,HO,HD,HK,N,u,O⟩:=Zg hx ho hd hk E n F;clear hx ho hd hk E n hs F;go_enter func319,ntmps319;go_wp2_with fail;go_loopw [13,5,6] (fun Y pv mv wr=> ∃(i:Nat) (p m:Int),i<=L/\Y=.int .i64 i/\pv=.int .i64 p/\mv=.int .i64 m/\ -1<=p/\p<L/\(0<i->0<=p)/\fc wr w 375 (nD x A1 c1 A2 c2 H d J k M A o G y)/\Below w w wr) (fun Y _ _ _=>L.length-(intOf Y).toNat)
 case atStart=>exact⟨0,-1,0,eC _,rfl,rfl,rfl,oG,oG,oG,fc.new w _ _,bL bF _⟩
 case round=>
  obtain⟨i,p,m,hi,rfl,rfl,rfl,T,U,V,I,r⟩:=hrel;have lk:=I.lt;by_cases j:i<L
  ·obtain⟨⟨z,q⟩,hz⟩:=ec j;obtain⟨bs,os,rfl,S,Z,y1⟩:=O i _ hz;replace Z:=a7 r lE Z;replace y1:=a7 r lE y1;have aa:=bP S r.size;obtain⟨d0,d1,d2,d3,d4,d5,d6,d7,d8,d9,P,Q,R,-⟩:=I.iY;clear hz;go_wp2_with fail;have K:=bL (bS wr wr) (cB 84 [z,q]);have c:=r.trans (K.mono r.size);have W:=c.size;refine(H7 x A1 c1 A2 c2 H J d k M A o G y z q _ (HX.out.below c lE) HO.out (iK.below HD.out c lE) HK.out (N.out.below c lE) (fun v X g hg=>by have:=u.out v X g hg;omega)).mono ?_;rintro e w5 ⟨cv,C,rfl,s,B⟩;obtain⟨Ac,cc,rfl,-⟩:=s.slice;have f:=c.trans (B.mono W);have l:=(I.below K lk).below B (bP lk K.size);obtain⟨af,ag,X,ai,aj,D⟩:=gx.open_ s.reads;cases X;clear s d0 d1 d2 d3 d4 d5 d6 d7 d8 d9 P Q R I r Z y1 c K;have ae: ∀t:Int,(t=i\/t=p/\ ¬p<0)-> -1<=t/\t<L/\(0<i+1->0<=t):=fun t h=>by omega
   match C with
   | []=>
    go_wp2_with fail;go_ret
    exact⟨i,rfl,oG,oG,fun _=>oG,f⟩
   | [a]=>
    by_cases hp:p<0;all_goals
     go_wp2_with fail;all_goals first
      |exact⟨⟨i+1,i,_,j,rfl,rfl,rfl,oG,oG,fun _=>oG,l,f⟩,by simp[intOf];omega⟩
      |exact⟨⟨i+1,p,m,j,rfl,rfl,rfl,oG,oG,fun _=>oG,l,f⟩,by simp[intOf];omega⟩
   |a::b::C=>
    obtain⟨b2,o2,rfl,ah,e0⟩:=D 0 a rfl;obtain⟨b3,o3,h3,-,e1⟩:=D 1 b rfl;cases h3;have ak:(0:Int)<(C.length:Int)+1+1:=oG;have aq:(1:Int)<(C.length:Int)+1+1:=oG;go_upto_region 9 with fail
    refine rG (fun wS=>wS.cell? (pA b2 o2)=some a/\wS.cell? (pA b2 (o2+1))=some b) [] (⟨e0,e1⟩) fun hS=>?_;refine kL [0,1,2,3,4,5,6,7] ?_;refine tD ?_;generalize IntKind.i64.wrap (b-a)=ba;by_cases hp:p<0;all_goals
     go_wp2_with fail;all_goals first
      |exact⟨⟨i+1,i,_,j,rfl,rfl,rfl,oG,oG,fun _=>oG,l.drew,f.drew⟩,by simp[intOf];omega⟩
      |exact⟨⟨i+1,p,m,j,rfl,rfl,rfl,oG,oG,fun _=>oG,l.drew,f.drew⟩,by simp[intOf];omega⟩
  ·obtain rfl:i=L.length:=oG;go_wp2_with fail;go_ret;exact⟨p,rfl,T,U,fun h=>V (jQ.2 h),r⟩
end
section
open Go.Proofs.Tryz
open Go.RowKit Go.Shelf jm ko kN B4
variable {e:TypeId} {size:Nat}
abbrev aaz (x:fS) (w w':World) (v:Value):Prop:= ∃dv d b,v=.tuple #[.agg #[dv],.bool b]/\OT w w' dv d/\jS x.eB 4000 d/\(∀t∈d,t≠[])/\Below w w w'
def VR:Value->Nat
 | .slice _ n _=>n
 |_=>0
def kQ.MD {base:Nat} {cs:List Value} (a:w.grownBy w' (some g)) (c:fc w g e cs) (b:base<=g):kQ e base w w':=
 ⟨a.os,a.tape,a.output,a.size,fun k d h=>a.block k d fun e=>by cases e;exact h.elim oG fun h=>h _ _ c⟩
def Eg {n:Nat} {xs:List Value} (h:w.ownsRow lb e size v n xs) (a:w.grownBy w' (some g)) (b:g<lb):w'.ownsRow lb e size v n xs:=
 World.ownsRow.kept h a (by
  cases c:v.ownBlock with
  |none=>exact .inl rfl
  |some k=>exact .inr fun e=>by cases e;have:=(iB h g c).1;omega)
def OL.wC {α:Type} {O:World->List Value->α->Prop} {L:List α} (h:OL lb e size O w v L) (a:w.grownBy w' (some g)) (b:g<lb) (l: ∀cs x,O w cs x->O w' cs x):OL lb e size O w' v L:=by obtain⟨c,d,f,j,k⟩:=h;exact⟨c,d,f,Eg j a b,fun i x cs n m=>l _ _ (k i x cs n m)⟩
def OT.wC {d:Dy} (h:OT lb w v d) (a:w.grownBy w' (some g)) (b:g<lb):OT lb w' v d:=
 OL.wC h a b fun _ _ ⟨v,e,h⟩=>⟨v,e,OL.wC h a b fun _ _ h=>h⟩
def Gs (x:fS) (A1:Option Addr) (c1:Nat) (A2:Option Addr) (c2:Nat) (sv:Value) (L:Tr) (w:World) (hx:iz w (.agg (xC x A1 c1 A2 c2).toArray) x) (ho:ga x) (hs:RL 2 iH w sv L) (hL:L.length<=1000000):
  Calls prog 304 #[.agg (xC x A1 c1 A2 c2).toArray,sv] w fun e w'=> ∃v,e=.returned v/\aaz x w w' v:=by
 obtain⟨As,cs,rfl,hs1,hs2,-⟩:=fQ.open_ hs;obtain⟨HX,HO,HS⟩:=Zc hx ho hs;clear hx ho hs;go_enter func304,ntmps304;go_wp2_with fail;have ha:=bL (bL (bL (bS w w) (cB 25 (xC x A1 c1 A2 c2))) (cB 39 [()])) (cB 39 [()]);refine(uH _ L _ (fQ.below HS ha lE) hL).mono ?_;rintro e w1 ⟨lv,rfl,hos1,hb1⟩;have bx1:=(((fc.new w 25 (xC x A1 c1 A2 c2)).alloc (cB 39 [()])).alloc (cB 39 [()])).below hb1 sO;have br1:=((fc.fW (w.alloc (cB 25 (xC x A1 c1 A2 c2))) 39 [()] (g:=w.heap.size+1) sI).alloc (cB 39 [()])).below hb1 sI;have bd1:=(fc.fW ((w.alloc (cB 25 (xC x A1 c1 A2 c2))).alloc (cB 39 [()])) 39 [()] (g:=w.heap.size+1+1) sI).below hb1 sI;have hb1:=ha.trans (hb1.mono sO);have hos1:=hos1.mono (lb':=w.heap.size+3) sI;obtain⟨Al,cl,rfl,hcl1,hcl2⟩:=hos1.slice;have HOS1:=zH hos1;have hsz1:=bd1.lt;clear ha hos1;go_wp2_with fail;go_loopw [7] (fun lv wr=> ∃(M:Tr) (Al:Option Addr) (cl:Nat) (Ad:Option Addr) (cd:Nat) (d:Dy) (lb:Nat),lv=.slice Al M cl/\fc wr w 25 (xC x A1 c1 A2 c2)/\fc wr (w+1) 39 [()]/\fc wr (w+1+1) 39 [.slice Ad d cd]/\
  Hid (OS (w+3) wr (.slice Al M cl) M)/\Hid (OT lb wr (.slice Ad d cd) d)/\w.heap.size+3<=lb/\Hid (∀g,(Value.slice Al M cl).ownBlock=some g->g<lb)/\M.length<=1000000/\Hid (jS x.eB 4000 d)/\Hid (∀t∈d,t≠[])/\Below w w wr) (fun lv _=>VR lv)
 case atStart=>exact⟨L,Al,cl,none,0,[],w1,rfl,bx1,br1,bd1,HOS1,(OT.jL _ _),oG,(fun g hg=>(iB HOS1 g hg).2),hL,(jS.jL _ _),(fun t h=>by simp at h),hb1⟩
 case round=>
  obtain⟨M,Al,cl,Ad,cd,d,lb,rfl,bx,br,bd,HOS,HOT,hlb,HGL,hM,HK,HNE,hb⟩:=hrel;obtain⟨d0,d1,d2,d3,d4,d5,-⟩:=bx.iY;have e0:=bd.c 0;have lx:=bx.lt;have lr:=br.lt;have ld:=bd.lt;have fr:=br.frozen 0
  rcases kV M with hM0|hMp
  ·obtain rfl:=gj hM0;have e1:=br.c 0;go_wp2_with fail;refine bodyPost_ret (iw rfl _ _ (w+1) 39 [.slice Ad d cd] _ true rfl rfl (br.gH 0 _) underlying39 rfl qw) rfl ⟨_,rfl,_,d,true,rfl,(HOT.fG dO _).mono oG,HK,HNE,hb.setCell dO _⟩
  ·go_wp2_with fail;have hsz:=hb.size
   refine(Fq x A1 c1 A2 c2 Ad cd d 4000 _ (HX.below hb lE) HO HOT.reads HK oG).mono ?_;rintro e w2 ⟨onv,tw,fv,bad,lkv,ev,rfl,hlk,hown,hb2⟩;obtain⟨HLK,HOWN⟩:=Zb hlk hown;clear hlk hown d0 d1 d2 d3 d4 d5 e0 fr;go_wp2_with fail;refine(GS x A1 c1 A2 c2 Ad cd d onv tw fv bad lkv ev _ M _ (HX.below (hb.trans (hb2.mono hsz)) lE) HO (HOT.below hb2 lE).reads HK HLK (fun v hv g hg=>(HOWN v hv g hg).2) (HOS.below hb2 lE).reads).mono ?_;rintro e w3 ⟨zi,rfl,hz1,hz2,hz3,hb3⟩;obtain⟨i,rfl⟩: ∃i:Nat,zi=i:=⟨zi.toNat,by have:=hz3 (by intro h;rw[h] at hMp;simp at hMp);omega⟩;have hi:i<M.length:=oG;have hbb:=hb2.trans (hb3.mono hb2.size);replace bx:=bx.below hbb lx;replace br:=br.below hbb lr;replace bd:=bd.below hbb ld;obtain⟨HOS3,HOT3⟩:=Zb (HOS.below hbb lE) (HOT.below hbb lE);replace hb3:=hb.trans (hbb.mono hsz);have TP:=hb3.size;replace lx:=bx.lt;replace lr:=br.lt;replace ld:=bd.lt;clear HOS HOT hb2 hbb hb HLK HOWN hz1 hz2 hz3;obtain⟨⟨z,q⟩,hzq⟩:=ec hi;obtain⟨Al',cl',hv,hcl1,hcl2,hcc⟩:=fQ.open_ HOS3.reads;cases hv;obtain⟨g,o,rfl,hg,y0,y1⟩:=hcc i _ hzq;obtain⟨d0,d1,d2,d3,d4,d5,-⟩:=bx.iY;have e0:=bd.c 0;have HD3:=zH HOT3.reads;dsimp only;go_upto_region 5 with fail
   go_cut [9,10] from 21 to 30 (fun pv bv wc=> ∃g2 Ad' cd' d' b',pv=.pointer (pB g2)/\bv=.bool b'/\fc wc g2 39 [.slice Ad' d'.length cd']/\w3.heap.size<=g2/\Hid (OT w3 wc (.slice Ad' d'.length cd') d')/\Hid (jS x.eB.length 4000 d')/\Hid (∀t∈d',t≠[])/\Below w3 w3 wc)
   case first=>
    refine rB [] fun hS=>?_;refine kL [0,1,2,3,4,5] ?_;refine pU ?_;refine mL 6 10 rfl rfl rfl rfl kR (fun K hK=>?_) (fun K hK=>?_)
    ·go_simp;refine(vK x A1 c1 A2 c2 Ad cd d z q _ (HX.below (hb3.trans (hS.mono hb3.size)) lE) HO (iK.below HD3 hS lE) HK HNE).mono ?_;rintro e w5 ⟨dv',d',b',rfl,hot5,hdk5,hne5,hb5⟩;obtain⟨Ad',cd',rfl,-⟩:=hot5.slice;replace hot5:=hot5.mono hS.size;have hS:=hS.trans (hb5.mono hS.size);have hw5:=hS.size;refine hK _ _ (hS) ?_;clear hK K;refine kL [7,8,9] ?_;refine tO 10 fun K hK=>?_;go_simp;have b6:=fc.new w5 39 [()];have h6:=hS.alloc hS.size (cB 39 [()]);replace hot5:=hot5.alloc (cB 39 [()]);have hS:=h6;refine hK _ _ (h6) ?_;clear hK K;refine tO 11 fun K hK=>?_;refine gY _ 39 (.tmp 9) (.tmp 29) rfl w5 39 [()] [.slice Ad' d' cd'] b6 rfl rfl qw rfl rfl ?_;intro w9 b9 hg9 hz9;have hk9:=kQ.MD (base:=w3.heap.size) hg9 b6 (hw5);have hS:=hS.trans (hk9.below hS.size);refine hK _ _ (hS) ?_;clear hK K;refine kL [12] ?_;refine tD ?_;go_wp2_with fail;go_meet;exact⟨_,Ad',cd',d',b',rfl,rfl,b9,hw5,(hot5.keep hk9 dE dE),hdk5,hne5,hS⟩
    ·go_simp;have b6:=fc.new w3.drew 39 [()];have h6:=hS.alloc hS.size (cB 39 [()]);refine hK _ _ (h6) ?_;clear hK K;have hS:=h6;refine tO 6 fun K hK=>?_;go_simp;refine(vK x A1 c1 A2 c2 Ad cd d z q _ (HX.below (hb3.trans (hS.mono hb3.size)) lE) HO (iK.below HD3 hS lE) HK HNE).mono ?_;rintro e w5 ⟨dv',d',b',rfl,hot5,hdk5,hne5,hb5⟩;obtain⟨Ad',cd',rfl,-⟩:=hot5.slice;replace hot5:=hot5.mono hS.size;have hS:=hS.trans (hb5.mono hS.size);have hw5:=hS.size;refine hK _ _ (hS) ?_;clear hK K;refine kL [7,8,9] ?_;replace b6:=b6.below hb5 b6.lt;refine tO 11 fun K hK=>?_;refine gY _ 39 (.tmp 9) (.tmp 29) rfl w3 39 [()] [.slice Ad' d' cd'] b6 rfl rfl qw rfl rfl ?_;intro w9 b9 hg9 hz9;have hk9:=kQ.MD (base:=w3.heap.size) hg9 b6 lE;have hS:=hS.trans (hk9.below hS.size);refine hK _ _ (hS) ?_;clear hK K;refine kL [12] ?_;refine tD ?_;go_wp2_with fail;go_meet;exact⟨_,Ad',cd',d',b',rfl,rfl,b9,lE,(hot5.keep hk9 dE dE),hdk5,hne5,hS⟩
   case rest=>
    obtain⟨g2,Ad',cd',d',b',rfl,rfl,b9,hg2,HOT',HK',HNE',hbc⟩:=hcut;replace bx:=bx.below hbc lx;replace br:=br.below hbc lr;replace bd:=bd.below hbc ld;have hosc:=HOS3.below hbc lE;have hotc:=HOT3.below hbc lE;have hbw:=hb3.trans (hbc.mono TP);have e0:=bd.c 0;have e9:=b9.c 0;have fr:=br.frozen 0;have fd:=bd.frozen 0;have hszc:=hbc.size;clear d0 d1 d2 d3 d4 d5 y0 y1 hcc;cases b'
    ·have e1:=br.c 0;have HOTc:=zH hotc;clear hosc hotc;go_wp2_with fail;refine bodyPost_ret (iw rfl _ _ (w+1) 39 [.slice Ad d cd] _ false rfl rfl (br.gH 0 _) underlying39 rfl qw) rfl ⟨_,rfl,_,d,false,rfl,(HOTc.fG dO _).mono oG,HK,HNE,hbw.setCell dO _⟩
    ·have HOSc:=zH hosc;obtain⟨hgo,hge⟩:o=0/\w.heap.size+3<=g:=by
      rcases hosc.2 with ⟨h,-⟩|⟨_,_,_,h,h2,-⟩
      ·cases h
      ·cases h;exact⟨rfl,h2⟩
     subst hgo;clear hosc hotc;have hwi:IntKind.i64.wrap ((i:Int)+1)=(i:Int)+1:=by rw[jB];omega
     go_upto_region 8 with fail
     refine rG (fun wS=>wS.cell? g2=some (.slice Ad' d' cd')) [6,7] (e9) fun hS=>?_;refine kL [0,1,2,3,4] ?_;refine tO 5 fun K hK=>?_;go_simp;refine(Qk (w+3) wc.drew g cl M i HOSc hM hi).mono ?_;rintro e w5 ⟨rfl,hos5,hg5⟩;have hlen:=S6 hi;rw[<-hlen] at hos5;replace bx:=bx.drew.grown (w':=w5) hg5 (by intro h;cases h;omega);replace br:=br.drew.grown (w':=w5) hg5 (by intro h;cases h;omega);replace bd:=bd.drew.grown (w':=w5) hg5 (by intro h;cases h;omega);have b95:=b9.drew.grown (w':=w5) hg5 (by intro h;cases h;omega);have hot5:=OT.wC (w:=wc.drew) (w':=w5) HOT' hg5 hg;have hb5:Below w w w5:=hbw.drew.grown hg5 (by show w.heap.size<=wc;omega) (fun q hq=>by cases hq;omega);obtain⟨HOS5,HOT5⟩:=Zb hos5 hot5;clear hos5 hot5 hg5;refine hK _ _ (b95.cell 0) ?_;clear hK K;refine tL 6 fun K hK=>?_;have fd5:=bd.frozen 0;have ed5:=bd.c 0;go_simp;refine hK _ _ ?_;clear hK K;refine tL 7 fun K hK=>?_;go_simp;refine hK _ _ ?_;clear hK K;refine tD ?_;go_wp2_with fail;rw[<-hlen];refine⟨⟨M.eraseIdx i,some ⟨g,0,none⟩,cl,Ad',cd',d',w3,rfl,bx.kj (p:=pB (w+1+1)) dO _,br.kj (p:=pB (w+1+1)) dO _,bd.gH 0 _,(HOS5.fG dO _),(HOT5.fG dO _),oG,(fun q hq=>by cases hq;exact hg),oG,HK',HNE',hb5.setCell dO _⟩,by simp[VR];omega⟩
end
section
open Go.Proofs.Tryz
open Go.RowKit Go.Shelf jm ko kN J8 B4
def xm (xv dv:Value) (x:fS) (d:Dy) (K:Nat) (r:Int) (w:World) (hx:iz w xv x) (ho:ga x) (hd:RL 1 jf w dv d) (hk:jS x.eB K d) (B:K<=1000000) (ai: ∀t∈d,t≠[]) (aF:r<=9223372036854775807):
  Calls prog 245 #[xv,.agg #[dv],r] w (Mu x.eB K w):=by
 obtain⟨A1,c1,A2,c2,rfl⟩:=hx.agg;obtain⟨Ad,cd,rfl,aK,aL,ag⟩:=iK.open_ hd;obtain⟨HX,HO,HK,aj,HC⟩:=Ze hx ho hk ai ag;have aM:=hk.len;clear hx ho hd hk ai ag;go_enter func245,ntmps245;go_wp2_with fail;go_loopw [18] (fun R wr=> ∃(i:Nat) (ov:Value),i<=d/\R=.int .i64 i/\fc wr w 25 (xC x A1 c1 A2 c2)/\fc wr (w+1+1) 39 [()]/\fc wr (w+1+1+1) 39 [ov]/\
  Hid (OT (w+4) wr ov (d.take i))/\Below w w wr/\w.heap.size+4<=wr) (fun R _=>d.length-(intOf R).toNat)
 case atStart=>exact⟨0,_,eC _,rfl,(((fc.new w _ _).alloc _).alloc _).alloc _,(fc.fW _ _ _ sI).alloc _,fc.fW _ _ _ sI,(OT.jL _ _),bL (bL (bL (bL bF _) _) _) _,by simp⟩
 case round=>
  obtain⟨i,ov,hi,rfl,A,h,m,c,f,hs⟩:=hrel;have V:=A.lt;have U:=h.lt;have S:=m.lt;obtain⟨Ao,co,rfl,-⟩:=c.slice;by_cases ah:i<d
  ·obtain⟨t,hz⟩:=ec ah;obtain⟨bt,ot,rfl,aA,tv,Q,y⟩:=HC i _ hz;obtain⟨X,ct,rfl,-⟩:=fQ.open_ Q;have aJ:=bP aA f.size;replace y:=a7 f lE y;obtain⟨HT,ae⟩:=Zb Q (iC hz);have aQ:=(HK.get hz).2;clear hz Q;obtain⟨L,hL⟩:=nR (d.take i);rw[hL] at c m ae;have aC:L.length<=1000000000:=by rw[<-hL,fB];omega
   clear hL;have c3:=m.c 0;go_upto_region 5 with fail
   have b5:=fc.new wr 44 [.slice X t ct];have T:=bL (bS wr wr) (cB 44 [.slice X t ct]);have z5:wr.heap.size<(wr.alloc (cB 44 [.slice X t ct])).heap.size:=sI;revert b5 T z5;show∀(b5:fc (wr.alloc (cB 44 [.slice X t ct])) _ _ _),_;generalize wr.alloc (cB 44 [.slice X t ct])=W;intro b5 T z5;have o:=f.trans (T.mono f.size);replace c3:=a7 T lE c3;have aU:=Xm S z5;have c5:=b5.c 0;refine rB [7,8,9] fun hS=>?_;refine kL [0,1,2,3] ?_;refine tO 4 fun K B=>?_;go_simp;refine(uH _ t _ (fQ.below HT (o.trans (hS.mono o.size)) lE) oG).mono ?_;rintro e w6 ⟨lv,rfl,P,ay⟩;obtain⟨H,J,rfl,-⟩:=P.slice;have hS:=hS.trans (ay.mono hS.size);have N:OS (w.heap.size+4) w6 (.slice H t J) t:=P.mono (by show _<=W.heap.size;omega);have M:=T.trans (hS.mono T.size);have aV:=hS.size;obtain⟨aH,q1,q2,q3,q4⟩:=c.below M lE;refine B _ _ (hS) ?_;refine kL [5] ?_;refine tO 6 fun K B=>?_;go_simp;refine B _ _ ((hS.alloc hS.size _)) ?_;refine tL 7 fun K B=>?_;refine ma w6 _ _ 37 rfl (w+4) 44 _ 1 24 underlying37 uz rfl dE dE _ L _ q3 rfl [.slice H t J] _ rfl rfl rfl aC oG ?_;intro g cap w7 F aN aO v aT;have G:OT (w+4) w7 (.slice g (L+1) cap) (L++[t]):=OL.push rfl q1 q2 rfl F (fun i x cs hx hc=>lI.keep (q4 i x cs hx hc) v dE) ⟨_,rfl,OS.ol (N.keep v dE)⟩;refine B _ _ ?_;refine tL 8 fun K B=>?_;go_simp;refine B _ _ ?_;have af:=v.below oG;have n:=v.ig (m.below M S) dE;have ak:=v.ig (h.below M U) dE;have aq:=v.ig (A.below M V) dE;have c37:=n.c 0;have aw:=n.frozen 0;have O:=(o.trans (hS.mono o.size)).trans (af.mono oG);rw[<-ae.out] at G;have Z:=zH G;clear F N P G;refine tL 9 fun K B=>?_;go_simp;refine B _ _ ?_;refine tD ?_;go_wp2_with fail;refine⟨⟨i+1,_,oG,rfl,aq.kj (p:=pB (w+1+1+1)) dO _,ak.kj (p:=pB (w+1+1+1)) dO _,n.gH 0 _,(Z.fG dO _),O.setCell dO _,by simp;omega⟩,by simp[intOf];omega⟩
  ·obtain rfl:i=d.length:=oG;have hO:=c.out;rw[gh] at hO m;have aa:=zH hO;clear hO c;go_wp2_with fail;go_loopw [11] (fun R wr=> ∃(z:Int) (H:Option Addr) (J:Nat) (D:Dy),0<=z/\z<=max r 0/\R=.int .i64 z/\fc wr w 25 (xC x A1 c1 A2 c2)/\fc wr (w+1+1) 39 [()]/\fc wr (w+1+1+1) 39 [.slice H D J]/\
    Hid (OT (w+4) wr (.slice H D J) D)/\Hid (jS x.eB K D)/\Hid (∀t∈D,t≠[])/\Below w w wr/\w.heap.size+4<=wr) (fun R _=>(r-intOf R).toNat)
   case atStart=>exact⟨0,Ao,co,d,oG,oG,rfl,A,h,m,aa,HK,aj,f,hs⟩
   case round=>
    clear A h m aa f V U S;obtain⟨z,H,J,D,aR,aS,rfl,A,h,m,c,I,Y,f,hs⟩:=hrel;have V:=A.lt;have U:=h.lt;have S:=m.lt;have c3:=m.c 0;have fr:=h.frozen 0;have c2:=h.c 0;by_cases ah:z<r
    ·obtain⟨d0,d1,d2,d3,d4,d5,-⟩:=A.iY;go_wp2_with fail;refine(Kl _ _ x D K _ (HX.below f lE) HO c.reads I B).mono ?_;rintro e W ⟨k,a,b,i,j,l,s,rfl,u⟩;replace A:=A.below u V;replace h:=h.below u U;replace m:=m.below u S;replace c:Hid (OT (w+4) W (.slice H D J) D):=zH (c.below u lE);replace f:=f.trans (u.mono f.size);replace hs:=eZ hs u.size;clear c3 fr c2 d0 d1 d2 d3 d4 d5;have c3:=m.c 0;have fr:=h.frozen 0;have c2:=h.c 0;replace V:=A.lt;replace U:=h.lt;replace S:=m.lt;have aG:=fc.new W 320 (qo k a b i j);have h6:=bL (bS W W) (cB 320 (qo k a b i j));dsimp only;cases s
     ·go_wp2_with fail;refine bodyPost_ret (iw rfl _ _ (w+1+1) 39 [.slice H D J] _ z rfl rfl ((h.gH 0 _).alloc _) underlying39 rfl qw) rfl ⟨_,D,z,rfl,((c.fG (q:=(pB (w+1+1))) dO _).alloc _).mono oG,I,Y,(f.setCell (p:=pB (w+1+1)) dO _).alloc sO _⟩
     ·obtain⟨d0,d1,d2,d3,d4,d5,-⟩:=A.iY;go_wp2_with fail;refine(Lb _ _ x D x.eB K k a b i j _ (HX.below (f.trans (h6.mono f.size)) lE) (c.below h6 lE).reads I B).mono ?_;rintro e w7 ⟨aI,D',E,rfl,F,aB,aD,az⟩;obtain⟨A7,c7,rfl,-⟩:=F.slice;have C:=h6.trans (az.mono h6.size);have n:=m.below C S;have aw:=n.frozen 0;have c37:=n.c 0;have aE:=h6.size;have hw:wrap64 (z+1)=z+1:=qO _ oG;have aP:=C.size;go_wp2_with fail;refine⟨⟨z+1,A7,c7,D',oG,oG,rfl,(A.below C V).kj (p:=pB (w+1+1+1)) dO _,(h.below C U).kj (p:=pB (w+1+1+1)) dO _,n.gH 0 _,
       zH ((F.mono (eZ hs aE)).fG dO _),aB,aD,(f.trans (C.mono f.size)).setCell dO _,by simp;omega⟩,by simp[intOf];omega⟩
    ·go_wp2_with fail;refine bodyPost_ret (iw rfl _ _ (w+1+1) 39 [.slice H D J] _ (.int .i64 (max r 0)) rfl rfl (h.gH 0 _) underlying39 rfl qw) rfl ⟨_,D,_,rfl,(c.fG dO _).mono oG,I,Y,f.setCell dO _⟩
open Go.RowKit jm ko kN B4
inductive Te (n:Nat) (l:Tr) (w:World) (e:Ending) (w':World):Prop
 |mk (z:Int) (he:e=.returned (.int .i64 z)) (hi:0<=z/\z<=18) (h:z=0->jK n l/\(l.map Prod.fst).Nodup) (hb:Below w w w')
def KC (x:fS) (A1:Option Addr) (c1:Nat) (A2:Option Addr) (c2:Nat) (Y:Value) (l:Tr) (w:World) (X:iz w (.agg (xC x A1 c1 A2 c2).toArray) x) (V:ga x) (M:RL 2 iH w Y l) (U:l.length<=1000000):
  Calls prog 274 #[.agg (xC x A1 c1 A2 c2).toArray,Y] w (Te x.eB l w):=by
 obtain⟨A,c,rfl,-,-,T⟩:=fQ.open_ M;obtain⟨HX,HO,HS,HC⟩:=Zd X V M T;clear X V M T;go_enter func274,ntmps274;go_wp2_with fail;have G:=bL (bS w w) (cB 25 (xC x A1 c1 A2 c2));go_loopw [10] (fun Q wr=> ∃i:Nat,i<=l/\Q=.int .i64 i/\fc wr w 25 (xC x A1 c1 A2 c2)/\Hid (jK x.eB (l.take i))/\Below w w wr) (fun Q _=>l.length-(intOf Q).toNat)
 case atStart=>exact⟨0,eC _,rfl,fc.new w _ _,(jK.jL _),G⟩
 case round=>
  obtain⟨i,hi,rfl,S,R,n⟩:=hrel;have lx:=S.lt;have B:=n.size;by_cases y:i<l
  ·obtain⟨⟨z,q⟩,P⟩:=ec y;obtain⟨b,o,rfl,aa,Z,y1⟩:=HC i _ P;replace Z:=a7 n lE Z;replace y1:=a7 n lE y1;have HZ:=zH P;clear P;go_upto_region 4 with fail
   have p:=fc.new wr 84 [z,q];have a:=S.alloc (cB 84 [z,q]);have f:=n.alloc B (cB 84 [z,q]);revert p a f;show∀(p:fc (wr.alloc (cB 84 [z,q])) _ _ _),_;generalize wr.alloc (cB 84 [z,q])=w4;intro p a f;have ls:=p.lt;have N:=f.size;have af:=a.lt;obtain⟨d0,d1,d2,d3,d4,d5,-⟩:=a.iY;obtain⟨q0,q1,-⟩:=p.iY;refine rB [] fun hS=>?_;refine kL [0,1] ?_;refine tO 2 fun K F=>?_;go_simp;refine(r9 z q _).mono ?_;rintro e w5 ⟨tv,rfl,j,I⟩;have d:=hS.trans (I.mono hS.size);have D:=zH j;obtain⟨At,ct,rfl,-⟩:=j.slice;clear j;refine F _ _ (d) ?_;refine tO 3 fun K F=>?_;go_simp;have m:=f.trans (d.mono N);refine(uu _ _ x [(z,q)] _ (HX.below m lE) HO D.reads sI).mono ?_;rintro e w6 ⟨r,rfl,⟨L,W⟩,g⟩;have C:=m.trans (g.mono m.size);have E:=a.below (d.trans (g.mono d.size)) a.lt;have s:=d.trans (g.mono d.size);have HR:=zH W;clear W;refine F _ _ (s) ?_;have hS:=s;refine kL [4] ?_;refine tD ?_;by_cases k:r=0
   ·subst k;go_wp2_with fail;go_roundw
    case rel=>exact⟨i+1,y,by go_num,E,zH (by rw[gk,HZ.out];exact R.append (jK.one ((HR dE).1 _ (.head _)))),C⟩
    case measure=>exact mI
   ·have ae:(r !=0)=true:=by simpa using k
    have J: ¬r=0:=k;go_wp2_with fail;go_ret;exact⟨r,rfl,L,fun h=>absurd h J,C⟩
  ·obtain rfl:i=l.length:=oG;go_wp2_with fail;refine(vi _ l _ (fQ.below HS n lE) U).mono ?_;rintro e w2 ⟨v,rfl,O,t⟩;have HV:=zH O;obtain⟨Av,cv,rfl,-⟩:=O.slice;clear O;go_wp2_with fail;refine(yJ _ _ _ HV.reads (by rw[oq,fm];exact U)).mono ?_;rintro e w3 ⟨b,rfl,h,H⟩;have HH:=zH h;have u:=n.trans ((t.trans (H.mono t.size)).mono B);clear h;cases b
   ·go_wp2_with fail;go_ret
    exact⟨0,rfl,oG,fun _=>⟨by have:=R.out;rwa [fj lE] at this,(yi _).nodup_iff.1 (IV (uU _) (HH.out (by trivial)))⟩,u⟩
   ·go_wp2_with fail;go_ret
    exact⟨11,rfl,oG,fun h=>by simp at h,u⟩
end
end Go.Proofs.YtgimnjldndkalaaGreatDoor
