/- Of the proof of TopCosts: A day's tours: the best day of those that are tried. -/
import Derived.Test.YtgimnjldndkalaaGreatDoorF29
import Derived.Test.YtgimnjldndkalaaGreatDoorF50
set_option linter.all false
set_option maxHeartbeats 4000000
set_option maxRecDepth 100000
namespace Go.Proofs.YtgimnjldndkalaaGreatDoor
variable {s:Int} {G:List Nat} {xc:List Value} {b n:Nat} {v:Value} {w w' w0:World}
section
open Go.Proofs.Tryz
open Go.RowKit Go.Shelf jm ko kN B4
theorem Rq{p:Prop}(h:p:=by
 refine yn kR ?_;go_wp2_with fail;unfold oB;gi_wp2;have j9:=((b.d9.gH 0 (.slice v d C)).kj (p:=pB (w1+1)) dO G).kj (p:=pB (w1+1+1)) dO true;have az:=((b.d10.kj (p:=w1) dO (.slice v d C)).gH 0 G).kj (p:=pB (w1+1+1)) dO true;have aA:=((b.d11.kj (p:=w1) dO (.slice v d C)).kj (p:=pB (w1+1)) dO G).gH 0 true;have jx:=((b.bx.kj (p:=w1) dO (.slice v d C)).kj (p:=pB (w1+1)) dO G).kj (p:=pB (w1+1+1)) dO true;have jr:=((b.br.kj (p:=w1) dO (.slice v d C)).kj (p:=pB (w1+1)) dO G).kj (p:=pB (w1+1+1)) dO true;have I: ∀k,k<R.heap.size-> ¬(R.heap.size<=k/\nB W k/\ ¬O k):=fun k h P=>by omega
 have Y:=wv (wv (wv aF (g:=w1.heap.size) (I _ oG) 0 (.slice v d C)) (g:=w1.heap.size+1) (I _ oG) 0 G) (g:=w1.heap.size+1+1) (I _ oG) 0 true;have j:=b.nj;exact⟨ah.trans ((ju.set _ 0 _ oG (fun h=>(j _ h).2.2.2.1 rfl)).trans ((ju.set _ 0 _ oG (fun h=>(j _ h).2.2.2.2.1 rfl)).trans (ju.set _ 0 _ oG (fun h=>(j _ h).2.2.2.2.2 rfl)))),_,_,d,G,true,
  ⟨((b.bl.setCell (p:=w1) dO _).setCell (p:=pB (w1+1)) dO _).setCell (p:=pB (w1+1+1)) dO _,jx,jr,j9,az,aA,b.ob,fun k a=>⟨fun h=>h.2.2 a,(j k a).2⟩,fun k a=>⟨Y.1 k a,oG⟩,Y.2,aa,aG⟩⟩):p:=h
theorem Rr{p:Prop}(h:p:=by rintro k ⟨o,h1,P⟩;refine Q.block k (aah.1 h1).1 fun e=>?_;obtain⟨-,p,j,X⟩:=l k e.symm;rw[h1] at j;cases j;rw[P] at X;cases X):p:=h
attribute [local go_sem] iO
variable {B:Nat} {D:Nat->Prop} {E:Value} {W b:World} {d:Dy}
def JH (x:fS) (A1:Option Addr) (c1:Nat) (A2:Option Addr) (c2:Nat) (Al:Option Addr) (cl:Nat) (l:Tr) (A:Int) (w:World) (hx:iz w (.agg (xC x A1 c1 A2 c2).toArray) x) (a:RL 2 iH w (.slice Al l cl) l):
  Calls prog 275 #[.agg (xC x A1 c1 A2 c2).toArray,.slice Al l cl,A] w fun e w'=>e=.returned (.func (.func 305) #[] #[.pointer (pB (w+5))])/\
   xe x A1 c1 A2 c2 (.slice Al l cl) l A w (w+1) (w+2) (w+3) w'/\fc w' (w+4) 338 (fn4 w (w+1) (w+3))/\fc w' (w+5) 342 [.slice (pB (w+4)) 4 4]/\Below w w w'/\w'.heap.size=w.heap.size+6:=by
 obtain⟨HX,HL⟩:=Zb hx a;clear hx a;go_enter func275,ntmps275;go_wp2;go_ret;have i:=bL (bL (bL (bL (bL (bL (bS w w) (cB 25 (xC x A1 c1 A2 c2))) (cB 42 [.slice Al l cl])) (cB 3 [A])) (cB 336 [.func (.func 297) #[] #[.pointer w,.pointer (pB (w+1+1))]])) (cB 338 (fn4 w (w+1) (w+3)))) (cB 342 [.slice (pB (w+1+1+1+1)) 4 4]);exact⟨rfl,⟨(((((fc.new w _ _).alloc _).alloc _).alloc _).alloc _).alloc _,((((fc.fW _ _ _ sI).alloc _).alloc _).alloc _).alloc _,(((fc.fW _ _ _ sI).alloc _).alloc _).alloc _,((fc.fW _ _ _ sI).alloc _).alloc _,HX.below i lE,fQ.below HL i lE⟩,(fc.fW _ _ _ sI).alloc _,fc.fW _ _ _ sI,i,by simp⟩
structure PV (n:Nat) (w0:World) (xb rb b9 b10 b11:Nat) (xc:List Value) (D:Nat->Prop) (dv:Value) (d:Dy) (z:Int) (f:Bool) (O:Nat->Prop) (W:World):Prop where
 bl:Below w0 w0 W
 bx:fc W xb 25 xc
 br:fc W rb 39 [()]
 d9:fc W b9 39 [dv]
 d10:fc W b10 3 [z]
 d11:fc W b11 4 [f]
 ob: ∀k,O k->w0.heap.size<=k
 nj: ∀k,O k-> ¬D k/\k≠xb/\k≠rb/\k≠b9/\k≠b10/\k≠b11
 dl: ∀k,D k->nB W k/\b11<k
 dy:nN D W dv d
 ok:jS n 4000 d
 ne: ∀t∈d,t≠[]
def Tl (n:Nat) (w0:World) (xb rb b9 b10 b11:Nat) (xc:List Value):Jt:=fun _ O W=> ∃D E d z f,PV n w0 xb rb b9 b10 b11 xc D E d z f O W
section
variable {xb rb b9 b10 b11:Nat}
def Tl.ab:Ms (Tl n w0 xb rb b9 b10 b11 xc):=fun s O j A B c hs u=>by
 obtain⟨D,E,d,z,f,h⟩:=c;have a: ∀k,k<A.heap.size-> ¬O k->B.heap[k]? =A.heap[k]? :=fun k a hn=>hs.block k a hn;have g:=h.bl.size;have hD: ∀k,D k->B.heap[k]? =A.heap[k]? :=fun k b=>a k (h.dl k b).1.lt fun u=>(h.nj k u).1 b;refine⟨D,E,d,z,f,⟨h.bl.trans (hs.low h.ob g),(a _ h.bx.lt fun u=>(h.nj _ u).2.1 rfl).trans h.bx,(a _ h.br.lt fun u=>(h.nj _ u).2.2.1 rfl).trans h.br,(a _ h.d9.lt fun u=>(h.nj _ u).2.2.2.1 rfl).trans h.d9,(a _ h.d10.lt fun u=>(h.nj _ u).2.2.2.2.1 rfl).trans h.d10,(a _ h.d11.lt fun u=>(h.nj _ u).2.2.2.2.2 rfl).trans h.d11,fun k b=>?_,fun k b=>?_,fun k b=>?_,h.dy.at hD hs.size,h.ok,h.ne⟩⟩
 ·rcases (u k b).1 with h3|h3
  ·exact h.ob k h3
  ·omega
 ·rcases (u k b).1 with h3|h3
  ·exact h.nj k h3
  ·refine⟨fun i=>by have:=(h.dl k i).1.lt;omega,fun e=>?_,fun e=>?_,fun e=>?_,fun e=>?_,fun e=>?_⟩
   ·have:=h.bx.lt;omega
   ·have:=h.br.lt;omega
   ·have:=h.d9.lt;omega
   ·have:=h.d10.lt;omega
   ·have:=h.d11.lt;omega
 ·refine⟨?_,(h.dl k b).2⟩;unfold nB;rw[hD k b];exact(h.dl k b).1
def Tl.bk (m:w0.heap.size<=B) (s:Nat) (O:Nat->Prop):rR B (Tl n w0 xb rb b9 b10 b11 xc s O):=fun A C row c Q l=>by
 obtain⟨D,E,d,z,f,h⟩:=c;have a: ∀k:Nat,nB A k->C.heap[k]? =A.heap[k]? :=by exact Rr
 have i: ∀{g:Nat} {t:TypeId} {cs:List Value},fc A g t cs->fc C g t cs:=fun h=>(a _ ⟨_,h,rfl⟩).trans h;exact⟨D,E,d,z,f,⟨rR.below m lE A C row h.bl Q l,i h.bx,i h.br,i h.d9,i h.d10,i h.d11,h.ob,h.nj,fun k b=>⟨by unfold nB;rw[a k (h.dl k b).1];exact(h.dl k b).1,(h.dl k b).2⟩,h.dy.at (fun k b=>a k (h.dl k b).1) Q.size,h.ok,h.ne⟩⟩
end
def rR.day:rR B (fun W=>(∀k,D k->nB W k)/\nN D W E d):=fun A C row c Q l=>by
 have a: ∀k:Nat,nB A k->C.heap[k]? =A.heap[k]? :=by exact Rr
 exact⟨fun k h=>by unfold nB;rw[a k (c.1 k h)];exact c.1 k h,c.2.at (fun k h=>a k (c.1 k h)) Q.size⟩
def tx (h:(∀k,D k->nB W k)/\nN D W E d) (i:Below B W b) (c:W.heap.size<=B):(∀k,D k->nB b k)/\nN D b E d:=
 ⟨fun k a=>by unfold nB;rw[i.block k (by have:=(h.1 k a).lt;omega)];exact h.1 k a,h.2.at (fun k a=>i.block k (by have:=(h.1 k a).lt;omega)) i.size⟩
def wv {g:Nat} (h:(∀k,D k->nB W k)/\nN D W E d) (Q: ¬D g) (i:Nat) (u:Value):(∀k,D k->nB (W.setCell (pA g i) u) k)/\nN D (W.setCell (pA g i) u) E d:=
 ⟨fun k a=>by unfold nB;rw[fX W g i u k (fun e=>Q (e▸a))];exact h.1 k a,h.2.at (fun k a=>fX W g i u k (fun e=>Q (e▸a))) sI⟩
def PV.below {w0:World} {xb rb b9 b10 b11:Nat} {xc:List Value} {z:Int} {f:Bool} {O:Nat->Prop} (h:PV n w0 xb rb b9 b10 b11 xc D E d z f O W) (i:Below W W b):PV n w0 xb rb b9 b10 b11 xc D E d z f O b:=by have P:=tx ⟨fun k a=>(h.dl k a).1,h.dy⟩ i lE;exact⟨h.bl.trans (i.mono h.bl.size),h.bx.below i h.bx.lt,h.br.below i h.br.lt,h.d9.below i h.d9.lt,h.d10.below i h.d10.lt,h.d11.below i h.d11.lt,h.ob,h.nj,fun k a=>⟨P.1 k a,(h.dl k a).2⟩,P.2,h.ok,h.ne⟩
inductive aaB (n:Nat) (w:World) (e:Ending) (w':World):Prop
 |mk (dv:Value) (d:Dy) (z:Int) (he:e=.returned (.tuple #[.agg #[dv],z])) (hz:0<=z/\z<=18) (hi:nN (fun k=>w.heap.size<=k/\nB w' k) w' dv d) (hd:jS n 4000 d) (hne: ∀t∈d,t≠[]) (hb:Below w w w')
def IW {l:Tr} (h:jK n l) (hn:(l.map Prod.fst).Nodup):l.length<=n:=by
 have h1:(l.map fun s=>s.1.toNat).Nodup:=by
  have P:((l.map Prod.fst).map Int.toNat).Nodup:=by refine acR.2 (List.Pairwise.imp_of_mem (fun{a b} ha hb hab e=>hab ?_) hn);obtain⟨s,hs,rfl⟩:=fq.1 ha;obtain⟨q,hq,rfl⟩:=fq.1 hb;have:=(h s hs).1;have:=(h q hq).1;omega
  simpa[kK,Function.comp_def] using P
 have:=wG h1 fun z hz=>by obtain⟨s,hs,rfl⟩:=fq.1 hz;have:=(h s hs).1;show s.1.toNat<n;omega
 simpa using this
def Jx (x:fS) (A1:Option Addr) (c1:Nat) (A2:Option Addr) (c2:Nat) (sv:Value) (l:Tr) (A:Int) (w:World) (hx:iz w (.agg (xC x A1 c1 A2 c2).toArray) x) (u:ga x) (hs:RL 2 iH w sv l) (hn:l.length<=1000000) (aN:A<=9223372036854775807):
  Calls prog 242 #[.agg (xC x A1 c1 A2 c2).toArray,sv,A] w (aaB x.eB w):=by
 obtain⟨Al,cl,rfl,-⟩:=fQ.open_ hs;obtain⟨HX,HO,HL⟩:=Zc hx u hs;have hh:=u.head;clear hx u hs;refine(callsIn_wide (n:=4)).1 ?_;refine callsIn_of_wp_marks func242 rfl trivial ?_ rfl;simp only[ntmps242,gU,ff,fZ,Nat.reduceAdd,Nat.reduceSub,iq,ir,iX,iA,gQ,fY];gi_wp2;have bx:=(fc.new w 25 (xC x A1 c1 A2 c2)).alloc (cB 39 [()]);have br:=fc.fW (w.alloc (cB 25 (xC x A1 c1 A2 c2))) 39 [()] (g:=w.heap.size+1) sI;have i:=bL (bL (bS w w) (cB 25 (xC x A1 c1 A2 c2))) (cB 39 [()]);refine⟨trivial,callsIn_wide.2 ((KC x A1 c1 A2 c2 _ l _ (HX.below i lE) HO (fQ.below HL i lE) hn).mono ?_)⟩;rintro e w1 ⟨z,rfl,bI,hz,D⟩;replace bx:=bx.below D bx.lt;replace br:=br.below D br.lt;have D:=i.trans (D.mono i.size);have lx:=bx.lt;have lr:=br.lt;have e1:=br.c 0;have f1:=br.frozen 0;clear i;by_cases aW:z=0
 ·subst aW;obtain⟨ht,aT⟩:=hz rfl;have bE:l.length<=2000:=eZ (IW ht aT) hh.2.1;have HT:=zH ht;clear hz ht aT
  gi_upto_region 5 with fail
  have b9:=((fc.new w1 39 [()]).alloc (cB 3 [Zo])).alloc (cB 4 [false]);have b10:=(fc.fW (w1.alloc (cB 39 [()])) 3 [Zo] (g:=w1.heap.size+1) sI).alloc (cB 4 [false]);have b11:=fc.fW ((w1.alloc (cB 39 [()])).alloc (cB 3 [Zo])) 4 [false] (g:=w1.heap.size+1+1) sI;have X:=bL (bL (bL (bS w1 w1) (cB 39 [()])) (cB 3 [Zo])) (cB 4 [false]);revert b9 b10 b11 X;show∀(_:fc (((w1.alloc (cB 39 [()])).alloc (cB 3 [Zo])).alloc (cB 4 [false])) _ _ _),_;generalize ((w1.alloc (cB 39 [()])).alloc (cB 3 [Zo])).alloc (cB 4 [false])=N;intro b9 b10 b11 X;have ae:=bx.below X lx;have aj:=br.below X lr;obtain⟨d0,d1,V,d3,d4,d5,-⟩:=ae.iY;have Z:=D.trans (X.mono D.size);have cH:=b11.lt;have bU:=ae.lt;have cw:=D.size;clear e1 f1 bx br;gi_wp2;refine⟨trivial,callsIn_wide.2 ((JH x A1 c1 A2 c2 Al cl l A N (HX.below Z lE) (fQ.below HL Z lE)).mono ?_)⟩;rintro e R ⟨rfl,hT,Q,hv,M,aX⟩;have bZ:=zH aX;have cG:N.heap.size+6<=R.heap.size:=oG;have f:=Z.trans (M.mono Z.size);have bB:=Q.lt;have bH:=hv.lt;have aZ:=zH hT;have aY:Hid (PV x.eB w w (w+1) w1 (w1+1) (w1+1+1) (xC x A1 c1 A2 c2) (fun _=>False) () [] 0 false (fun k=>N.heap.size<=k/\k<N.heap.size+6) R):=zH ⟨f,ae.below M bU,aj.below M aj.lt,b9.below M b9.lt,b10.below M b10.lt,b11.below M b11.lt,(fun k h=>by have:=Z.size;omega),(fun k h=>⟨id,oG,oG,oG,oG,oG⟩),(fun k h=>h.elim),nN.jL _ _,jS.jL _ _,(fun t h=>by cases h)⟩;clear hT aX b9 b10 b11 ae aj d0 d1 V d3 d4 d5;gi_wp2;refine(qL oG (gf:=305) (lb:= #[.pointer (pB (N+5))]) rfl (enters_of func305 kR rfl)
   (GR w R w x A1 c1 A2 c2 _ l A N (N+1) (N+2) (N+3) (N+4) (N+5) HX HO HL rfl aN HT bE) f.size (fun s O W x h=>by obtain⟨_,_,rfl,-⟩:=h;rfl)
   (Tl x.eB w w (w+1) w1 (w1+1) (w1+1+1) (xC x A1 c1 A2 c2)) Tl.ab (Tl.bk f.size) (fun k=>N.heap.size<=k/\k<N.heap.size+6) (fun k h=>by omega)
   (fun W H=>by have af:Below R R W:=⟨H.os,H.tape,H.output,H.size,fun k a=>H.block k a sI⟩;exact⟨f.trans (af.mono f.size),H.size,(fun k h=>by have:=H.size;omega),aZ.below af,Q.below af bB,hv.below af bH,⟨oG,oG⟩,⟨oG,oG⟩,⟨oG,oG⟩,⟨oG,oG⟩,⟨oG,oG⟩,⟨oG,oG⟩⟩)
   ⟨_,_,_,_,_,aY⟩ ?round ?done)
  case round=>
   intro m l' s O x' W K hI bh hO bG hK;obtain⟨E,d,rfl,ay,aQ,aR⟩:=bh;obtain⟨v,C,rfl⟩:=ay.slice;have aI:=zH (Tl.ab s O O _ _ hI (gI.alloc O W (cB 39 [.slice v d C])) (fun q hq=>⟨.inl hq,bP (hO q hq) sI⟩));have aC:Hid (ju R w O W (W.alloc (cB 39 [.slice v d C]))):=zH (ju.below ((bS _ W).alloc lE _) (eZ f.size bG) hO);obtain⟨aJ,aH,aa,aG⟩:=Zd (fc.new W 39 [.slice v d C]) (tx ⟨fun k a=>a.2.1,ay⟩ ((bS W W).alloc lE (cB 39 [.slice v d C])) lE) aQ aR;clear hI ay aQ aR;gi_wp2;refine hK _ _ aC (fun m l' W2 aL cD ag=>?_);have bN:=ag _ (rR.ig W 39 [.slice v d C]) aJ;have aK:=ag _ rR.day aH;obtain⟨D2,aq,V,z2,f2,J⟩:=ag _ (Tl.bk f.size s O) aI;obtain⟨c,aD⟩:=Zb J aK;clear aI aJ aC ag aH J aK;obtain⟨q0,q1,q2,q3,q4,q5,-⟩:=c.bx.iY;have y0:=bN.c 0;have lN:=bN.lt;have bO:=c.bx.lt;have cE:=c.bl.size;gi_wp2;refine⟨trivial,nF,n9 ((zY _ _ x d 4000 _ (HX.below c.bl lE) HO aD.2.reads aa oG).mono ?_)⟩;rintro e W3 ⟨r,rfl,-,L⟩;obtain⟨T,aE⟩:=Zb (c.below L) (tx aD L lE);have aB:Hid (ju R w O W2 W3):=zH (ju.below L oG aL);replace bN:=bN.below L lN;have aM:=L.size;clear q0 q1 q2 q3 q4 q5 y0 bO L;by_cases aV:r=0
   ·subst aV;obtain⟨q0,q1,q2,q3,q4,q5,-⟩:=T.bx.iY;have y0:=bN.c 0;have bJ:=bN.lt;have cJ:=T.bx.lt
    gi_upto_region 8 with fail
    gi_wp2;refine⟨trivial,nF,n9 ((xI _ _ x d 4000 _ (HX.below T.bl lE) HO aE.2.reads aa oG).mono ?_)⟩;rintro e W4 ⟨rfl,F⟩;obtain⟨G,aO⟩:=nR (me (d.map (uA x)));rw[aO];obtain⟨b,aF,ah⟩:=Zc (T.below F) (tx aE F lE) (aB.trans (ju.below (B:=R.heap.size) F oG (fun k a=>bP (aL k a) aM)));replace bN:=bN.below F bJ;have y0:=bN.c 0;have cI:=bN.lt;obtain⟨y9,-⟩:=b.d9.iY;obtain⟨cK,-⟩:=b.d10.iY;obtain⟨bW,-⟩:=b.d11.iY;have g9:=b.d9.frozen 0;have cg:=b.d10.frozen 0;have cj:=b.d11.frozen 0;have z9:=b.d9.lt;have cM:=b.d10.lt;have bY:=b.d11.lt;clear aO F q0 q1 q2 q3 q4 q5
    gi_upto_region 9 with fail
    cases f2
    ·exact Rq
    ·by_cases cA:G<z2
     ·exact Rq
     ·refine yn kR ?_;go_wp2_with fail;unfold oB;gi_wp2;exact⟨ah,D2,aq,V,z2,true,b⟩
   ·have cC:(r !=0)=true:=by simpa using aV
    gi_wp2;exact⟨aB,D2,aq,V,z2,f2,T⟩
  case done=>
   intro D9 s O W hD hI aP;obtain⟨D2,aq,V,z2,f2,J⟩:=hI;obtain⟨S,U,rfl⟩:=J.dy.slice;have c:=zH J;obtain⟨y9,-⟩:=c.d9.iY;obtain⟨bW,-⟩:=c.d11.iY;obtain⟨yr,-⟩:=c.br.iY;have gr:=c.br.frozen 0;have z9:=c.d9.lt;have bY:=c.d11.lt;have zr:=c.br.lt;clear J;cases f2
   ·have y:Hid ((W.setCell (pB (w+1)) ()).heap[D9]? =some (.deferred (some []))):=zH ((fX _ _ _ _ _ oG).trans aP);have aw:=(c.bl.setCell (p:=pB (w+1)) dO ());have ak:=c.br.gH 0 ();gi_wp2;refine⟨by simp,.inl ⟨_,_,rfl,run_takeDeferred y,?_⟩⟩;exact⟨_,iw rfl _ _ (w+1) 39 [()] _ (.int .i64 14) rfl rfl (pS ak y rfl _) underlying39 rfl kR,⟨_,[],14,rfl,oG,nN.jL _ _,jS.jL _ _,(fun t h=>by cases h),po aw lE oG y⟩⟩
   ·have aS:=wv ⟨fun k a=>(c.dl k a).1,c.dy⟩ (g:=w.heap.size+1) (fun h=>by have:=(c.dl _ h).2;omega) 0 (.slice S V U);have ai:=zH aS;clear aS;have y:Hid ((W.setCell (pB (w+1)) (.slice S V U)).heap[D9]? =some (.deferred (some []))):=zH ((fX _ _ _ _ _ oG).trans aP);have aw:=(c.bl.setCell (p:=pB (w+1)) dO (.slice S V U));have ak:=c.br.gH 0 (.slice S V U);gi_wp2;refine⟨by simp,.inl ⟨_,_,rfl,run_takeDeferred y,?_⟩⟩;have aU: ∀k,D2 k->k≠D9:=fun k a e=>by subst e;obtain⟨o,h1,P⟩:=ai.1 k a;rw[y.out] at h1;cases h1;cases P
    exact⟨_,iw rfl _ _ (w+1) 39 [.slice S V.length U] _ Zo rfl rfl (pS ak y rfl _) underlying39 rfl kR,⟨_,V,0,rfl,oG,(ai.2.at (fun k a=>World.putObj_heap_other (aU k a)) sI).mono (fun k a=>⟨by have:=(c.dl k a).2;omega,by unfold nB;rw[World.putObj_heap_other (aU k a)];exact ai.1 k a⟩),c.ok,c.ne,po aw lE oG y⟩⟩
 ·have cF:(z !=0)=true:=by simpa using aW
  gi_wp2;exact⟨_,iw rfl _ _ (w+1) 39 [()] _ z rfl rfl (br.gH 0 _) underlying39 rfl kR,⟨_,[],z,rfl,bI,nN.jL _ _,jS.jL _ _,(fun t h=>by cases h),D.setCell (p:=pB (w+1)) dO _⟩⟩
end
namespace Ra
open Go.Proofs.Tryz
open Go Go.RowKit jm ko kN
variable {B:jM} {env:Env} {k:Nat}
section
variable {x:fS}
theorem GO (a:Good (kinds x) env B w):Sub env.h w:=fun b c T f m=>(a.hh b c T f m).1
theorem B6 {w':World} (a:Good (kinds x) env B w) (l:k≠0) {ρ':Nat->Int} (i:ρ' 0=0) {f:Value} {d:Dy} (r:ρ' k=d) (C:nN (fun q=>w.heap.size<=q/\nB w' q) w' f d) (p:jS x.eB 4000 d) (c: ∀t∈d,t≠[]):
  (BV.tr 5 ⟨k,0⟩ ⟨0,4000⟩).ok (kinds x) (xM env ρ' w w' fun _=>none) f:=by
 have b:(⟨k,0⟩:E).ev ρ'=d.length:=by show ρ' k+0=_;omega
 have e:(⟨0,4000⟩:E).ev ρ'=4000:=by show ρ' 0+4000=_;omega
 have j:=p.len;have h:=(C.at (w':=Ka env.h w w' fun _=>none) (fun q g=>M6 g.1 rfl) (by simp[Ka])).reads;show MX x 5 (Ka env.h w w' fun _=>none) f _ _/\_/\_;change MX x 5 (Ka env.h w w' fun _=>none) f ((⟨k,0⟩:E).ev ρ') ((⟨0,4000⟩:E).ev ρ')/\0<=(⟨k,0⟩:E).ev ρ'/\(⟨k,0⟩:E).ev ρ'<=(⟨0,4000⟩:E).ev ρ';rw[b,e];exact⟨⟨oG,oG,.inr ⟨d,h,rfl,p,c⟩⟩,oG,oG⟩
theorem Iy (l:List Int):kP (me l):=by
 rcases tP l with rfl|⟨a,z,rfl⟩
 ·unfold kP;decide
 ·rw[BW,AQ];unfold kP wrap64;omega
theorem Sj {env:Env} {B:jM} {w:World} (hg:Good (kinds x) env B w) {k:Nat} {v:Value} (h:(ls 9 k).ok (kinds x) env v): ∃l:Tr,RL 2 iH w v l∧(l.length:Int)=env.ρ k:=by
 obtain⟨a,n,c,rfl,hn,hnc,hc,ha0,had⟩:=h;have hn:(n:Int)=env.ρ k+0:=hn;cases a with
 |none=>
  have h0:=ha0 rfl;have hn0:n=0:=by omega
  subst hn0;exact⟨[],⟨none,c,rfl,eC _,by rw[qf];exact hc,fun h=>by simp at h⟩,by simp;omega⟩
 |some ad=>
  obtain⟨b,o,sp⟩:=ad;obtain⟨rfl,z,hH,ho2,hle⟩:=had _ rfl;obtain⟨⟨cs,g1,g2,g3⟩,-,-⟩:=hg.hH b 9 z hH;have ho2:o%2=0:=ho2;have hle:o+c*2≤z:=hle;have hcell: ∀j,j <cs.size→ ∃y,cs[j]? =some (.int .i64 y):=fun j hj=>by
   obtain⟨p,hp,hpo⟩:=g3 j cs[j] (fM hj);have hp2:([PC.int,PC.int]:List PC)[j%2]? =some p:=hp;rw[fM hj]
   rcases Nat.mod_two_eq_zero_or_one j with h|h
   ·rw[h] at hp2;cases hp2;obtain⟨y,hy,-⟩:=hpo;exact⟨y,by rw[hy]⟩
   ·rw[h] at hp2;cases hp2;obtain⟨y,hy,-⟩:=hpo;exact⟨y,by rw[hy]⟩
  have hval: ∀j,j <cs.size→cs[j]? =some (.int .i64 (intOf (cs.getD j .nilFunc))):=fun j hj=>by obtain⟨y,hy⟩:=hcell j hj;rw[hy,iS,hy];rfl
  refine⟨(List.range n).map fun i=>(intOf (cs.getD (o+i*2) .nilFunc),intOf (cs.getD (o+i*2+1) .nilFunc)),⟨some ⟨b,o,none⟩,c,by simp,by simpa using hnc,by rw[qf];exact hc,fun h=>⟨b,o,rfl,fP g1,fun i s hs=> ?_⟩⟩,by simp;omega⟩;have hi:=(bX.1 hs).1;rw[fm,mr] at hi;rw[fh,oH hi] at hs;cases hs;refine⟨_,rfl,rfl,fun j u hj=> ?_⟩;rw[cell_of_row w b _ cs _ _ g1]
  match j,hj with
  |0,hj=>cases hj;exact hval _ (by omega)
  |1,hj=>cases hj;exact hval _ (by omega)
  |j+2,hj=>simp[gV] at hj
variable (hx:ga x)
include hx
theorem CA (a:Good (kinds x) env B w) {v:Value} (h:(dy k).ok (kinds x) env v): ∃f d,v=.agg #[f]/\RL 1 jf w f d/\jS x.eB 4000 d/\ ∀t∈d,t≠[]:=by
 obtain⟨z,rfl,h⟩:=h;obtain⟨u,z,rfl,g,h⟩:=jH.cons h;obtain rfl:=jH.nil h;have D:=jW hx a;obtain⟨⟨-,-,g⟩,-,-⟩:=g
 rcases g with ⟨rfl,-⟩|⟨d,i,-,j,l⟩
 ·exact⟨_,[],rfl,⟨none,0,rfl,lE,by simp[maxLen],fun h=>by simp at h⟩,jS.jL _ _,fun t h=>by cases h⟩
 ·refine⟨u,d,rfl,RL.sub (GO a) oG (fun _ _ h=>jf.sub (GO a) h) i,?_,l⟩;have e:(⟨0,4000⟩:E).ev env.ρ=4000:=by show env.ρ 0+4000=4000;omega
  rw[e] at j;exact j
theorem h87:ik x 87 ab5:=mZ hx func87 kR kR rfl rfl dE fun env w args a o B=>by obtain⟨v,u,rfl,g,i⟩:=xh o;obtain⟨f,d,rfl,j,l,-⟩:=CA hx a i;refine(zY v f x d 4000 w (tA hx a g) hx j l oG).mono ?_;rintro e w' ⟨z,rfl,D,m⟩;exact⟨_,put env.ρ 7 z,rfl,m,fun s h=>fy h,pP (by unfold kP;omega),fF _⟩
theorem h92:ik x 92 ab8:=mZ hx func92 kR kR rfl rfl dE fun env w args a o B=>by obtain⟨v,u,rfl,g,i⟩:=xh o;obtain⟨f,d,rfl,j,l,-⟩:=CA hx a i;refine(xI v f x d 4000 w (tA hx a g) hx j l oG).mono ?_;rintro e w' ⟨rfl,m⟩;exact⟨_,put env.ρ 7 _,rfl,m,fun s h=>fy h,pP (Iy _),fF _⟩
theorem abt:ik x 245 ZJ:=vJ hx func245 kR kR rfl rfl dE fun env w args a o B=>by obtain⟨v,u,b,rfl,g,i,A⟩:=Cn o;obtain⟨f,d,rfl,j,l,D⟩:=CA hx a i;obtain⟨rfl,E⟩:=jZ A;refine(xm v f x d 4000 _ w (tA hx a g) hx j l oG D E.2).mono ?_;rintro e w' ⟨y,q,z,rfl,p,r,c,m⟩;exact⟨_,put env.ρ 8 q.length,fun _=>none,rfl,m,fun s h=>fy h,(fun b t n h=>by cases h),⟨_,rfl,⟨_,rfl,B6 a dE (by rw[fy dE];exact jW hx a) ie (nN.of p) r c,trivial⟩,⟨z,rfl⟩,trivial⟩,fF _⟩
theorem abI:ik x 306 Z1:=vJ hx func306 kR kR rfl rfl dE fun env w args a o B=>by obtain⟨u,b,rfl,i,A⟩:=xh o;obtain⟨f,d,rfl,j,l,D⟩:=CA hx a i;obtain⟨rfl,E⟩:=jZ A;refine(Gt f d _ 4000 _ w j l oG).mono ?_;rintro e w' ⟨y,q,z,rfl,p,r,c,m⟩;exact⟨_,put env.ρ 8 q.length,fun _=>none,rfl,m,fun s h=>fy h,(fun b t n h=>by cases h),⟨_,rfl,⟨_,rfl,B6 a dE (by rw[fy dE];exact jW hx a) ie (nN.of p) r c,trivial⟩,⟨z,rfl⟩,trivial⟩,fF _⟩
theorem Yn:ik x 308 Z3:=vJ hx func308 kR kR rfl rfl dE fun env w args a o B=>by obtain⟨v,u,b,rfl,g,i,A⟩:=Cn o;obtain⟨f,d,rfl,j,l,D⟩:=CA hx a i;have C:=tA hx a g;obtain⟨A1,c1,A2,c2,rfl⟩:=C.agg;obtain⟨z,rfl,h⟩:=A;obtain⟨J,z,rfl,H,h⟩:=jH.cons h;obtain⟨L,z,rfl,I,h⟩:=jH.cons h;obtain rfl:=jH.nil h;obtain⟨rfl,-⟩:=jZ (K:=kinds x) (k:=7) H;obtain⟨rfl,-⟩:=jZ (K:=kinds x) (k:=8) I;obtain⟨E,G,rfl,-⟩:=iK.open_ j;refine(vK x A1 c1 A2 c2 E G d _ _ w C hx j l D).mono ?_;rintro e w' ⟨y,q,F,rfl,p,r,c,m⟩;exact⟨_,put env.ρ 9 q.length,fun _=>none,rfl,m,fun s h=>fy h,(fun b t n h=>by cases h),⟨_,rfl,⟨_,rfl,B6 a dE (by rw[fy dE];exact jW hx a) ie (nN.of p) r c,trivial⟩,⟨F,rfl⟩,trivial⟩,fF _⟩
theorem abq:ik x 242 ZG:=vJ hx func242 kR kR rfl rfl dE fun env w args a o B=>by obtain⟨v,u,b,rfl,g,i,A⟩:=Cn o;obtain⟨l,j,d⟩:=Sj a i;obtain⟨rfl,E⟩:=jZ A;have D:=jW hx a;have C:=tA hx a g;obtain⟨A1,c1,A2,c2,rfl⟩:=C.agg;have F:env.ρ 6<=env.ρ 0+1000000:=B ⟨6,0,1000000⟩ (tR _ (.head _));refine(Jx x A1 c1 A2 c2 u l _ w C hx j oG E.2).mono ?_;rintro e w' ⟨y,q,z,rfl,f,p,r,c,m⟩;refine⟨_,put (put env.ρ 8 q) 9 z,fun _=>none,rfl,m,fun s h=>by have h:s<8:=h;rw[fy oG,fy h],(fun b t n h=>by cases h),⟨_,rfl,⟨_,rfl,B6 a dE (by rw[fy dE,fy dE];exact D) (by rw[fy dE];exact ie) p r c,trivial⟩,?_,trivial⟩,fF _⟩;exact pP (K:=kinds x) (env:=xM env (put env.ρ 8 q.length) w w' fun _=>none) (k:=9) (by unfold kP;omega)
end
end Ra
namespace Ra
open Go.Proofs.Tryz
open Go Go.RowKit jm ko kN
theorem XJ (x:fS): ∃el ee zs,Hf (kinds x) VV 42 9 el ee zs/\Hd (kinds x) ((kinds x).pat 9) 0 ee.zero.cells.toList=true:=by obtain⟨z,hz,P⟩: ∃z,xl (kinds x) VV 42 9=some z/\Hd (kinds x) ((kinds x).pat 9) 0 z.1.zero.cells.toList=true:=⟨_,rfl,rfl⟩;obtain⟨el,he⟩:=rF hz;exact⟨el,_,_,he,P⟩
section
variable {x:fS} (hx:ga x)
include hx
theorem Sh {env0 env:Env} {w0 w:World} (h:oE (kinds x) env0 w0 env w) (g:Nat) (L:g=w) (i q:Int) (hi:kP i) (m:kP q):
  ∃a,oE (kinds x) env0 w0 a (w.alloc (cB 84 [i,q]))/\Ext (fun _=>true) env a/\jd (kinds x) a 9 (.slice g 1 1) 1:=by
 subst L;obtain⟨N,l⟩: ∃N:Nat->Option (Nat×Nat),N=fun k=>if k=w.heap.size then some (9,2) else none:=⟨_,rfl⟩;have d:=(bS w w).alloc lE (cB 84 [i,q]);have f: ∀b t n,N b=some (t,n)->w.heap.size<=b/\(∃c,(w.alloc (cB 84 [i,q])).heap[b]? =some (.cells c ((kinds x).ty t) (0,0))/\c.size=n/\lA (kinds x) (xM env env.ρ w (w.alloc (cB 84 [i,q])) N) t c)/\n%((kinds x).pat t).length=0:=fun b t n d=>by
  rw[l] at d;dsimp only at d;split at d
  ·rename_i e;cases d;subst e;refine⟨lE,⟨_,World.alloc_heap_new w _,rfl,fun j u B=>?_⟩,show 2%2=0 from rfl⟩
   match j,B with
   |0,B=>cases B;exact⟨.int,rfl,i,rfl,hi⟩
   |1,B=>cases B;exact⟨.int,rfl,q,rfl,m⟩
   |j+2,B=>simp at B
  ·cases d
 refine⟨_,h.new (fR hx) d N f,?_,?_⟩
 ·obtain⟨K,-,-⟩:=h.kY.new (fR hx) d (ρ':=env.ρ) (np:=6) lE (fun _ _=>rfl) f;exact⟨fun _ _=>rfl,fun _ _=>rfl,K.H,K.h⟩
 ·refine⟨_,1,1,rfl,rfl,lE,oG,nF,fun o h=>?_⟩;cases h;refine⟨rfl,2,?_,rfl,lE⟩;show(match N w with|some x=>some x|none=>env.H w)=_;rw[l];simp
theorem abr:ik x 243 ZH:=CN hx func243 kR kR rfl rfl dE fun env w args L ha hF=>by
 obtain⟨v,u,b,rfl,K,P,h5⟩:=Cn ha;obtain⟨rfl,i7⟩:=jZ h5;have hz:=jW hx L;have hh:=hx.head;have hi:=tA hx L K;obtain⟨A1,c1,A2,c2,rfl⟩:=hi.agg;obtain⟨au,D,cu,rfl,V,aP,aM,-,-⟩:=id P;have HV:Hid (jd (kinds x) env 3 (.slice au D cu) (env.ρ 6)):=zH (by have:jd (kinds x) env 3 (.slice au D cu) (env.ρ 6+0):=P;rwa [fE] at this);have U:env.ρ 6=D:=by have:(D:Int)=env.ρ 6+0:=V;omega
 have ak:=zH U;obtain⟨E9,aL⟩:=nE (True:Prop);obtain⟨aw,A⟩:=nR (env.ρ 7);rw[A];have ah:=zH (oE.refl L);clear K P h5 hF L A ha V U;go_enter func243,ntmps243;go_wp2_with fail;have ha:=bL (bS w w) (cB 25 (xC x A1 c1 A2 c2));have ai:=zH (ah.below (fR hx) ha);go_loopw [7,17] (fun lv iv wr=> ∃(i:Nat) (n:Nat) (a:Env),i<=x.eB/\iv=.int .i64 i/\Hid (oE (kinds x) env w a wr)/\Hid (jd (kinds x) a 9 lv n)/\n<=64*i) (fun _ iv _=>x.eB.length-(intOf iv).toNat)
 case atStart=>exact⟨0,0,env,eC _,rfl,ai,(GM _ _ _),lE⟩
 case round=>
  obtain⟨i,n,a,hi,rfl,k,q,hn⟩:=hrel;obtain⟨al,nl,cl,rfl,-⟩:=id q;by_cases aC:i<x.eB/\i<D
  ·have hm:(i:Int)<min (x.eB.length:Int) D:=oG;obtain⟨b,o,n',c',e,az,-,c⟩:=zk k.kY (jd.ext k.ext HV) (i:=i) (by rw[ak.out];omega);cases e;obtain⟨ui,p,y0,W,F⟩:=c 0 (show 0<1 by decide);have E:p=.sl 2 64:=by have:([PC.sl 2 64]:List PC)[0]? =some p:=W;cases this;rfl
   subst E;obtain⟨li,G,aB⟩: ∃l,jd (kinds x) a 2 ui l/\l<=64:=F;obtain⟨N,y,O,rfl,T,-,-⟩:=id G;have aH:y<=64:=oG;have g:Hid (jd (kinds x) a 2 (.slice N y O) y):=zH (by rw[T];exact G);have m:((kinds x).pat 3).length=1:=rfl;rw[m,jR,gv] at y0;have aN:i<D:=aC.2;clear G c W aB T m;obtain⟨wo,aF⟩:=nE (wr:World);subst aF;go_wp2_with fail;go_loopw [7,25] (fun lv jv wq=> ∃(j:Nat) (n:Nat) (d:Env),j<=y/\jv=.int .i64 j/\Hid (oE (kinds x) env w d wq)/\Hid (jd (kinds x) d 9 lv n)/\Hid (jd (kinds x) d 2 (.slice N y O) y)/\n<=64*i+j) (fun _ jv _=>y-(intOf jv).toNat)
   case atStart=>exact⟨0,n,a,eC _,rfl,k,q,g,oG⟩
   case round=>
    clear k q g az y0;obtain⟨j,n2,d,B,rfl,k,q,g,aO⟩:=hrel;obtain⟨aJ,f,aK,rfl,aI,-⟩:=id q;obtain rfl:f=n2:=oG;by_cases S:j<y
    ·obtain⟨b2,o2,n',c',e,aG,-,c⟩:=zk k.kY g (i:=j) oG;cases e;obtain⟨u0,p,y0,W,F⟩:=c 0 (show 0<2 by decide);obtain⟨u1,p1,y1,X,Y⟩:=c 1 (show 1<2 by decide);have E:p=.zM 0 2 (-1):=by have:([PC.zM 0 2 (-1),PC.int]:List PC)[0]? =some p:=W;cases this;rfl
     have aD:p1=.int:=by have:([PC.zM 0 2 (-1),PC.int]:List PC)[1]? =some p1:=X;cases this;rfl
     subst E;subst aD;obtain⟨dd,rfl,-⟩: ∃n,u0=.int .i64 n/\_:=F;obtain⟨qq,rfl,Z⟩: ∃n,u1=.int .i64 n/\kP n:=Y;have m:((kinds x).pat 2).length=2:=rfl;rw[m] at y0 y1;rw[gv] at y0;have HQ:=zH Z;have Q:=bL (bS wr wr) (cB 86 [dd,qq]);clear c W X m Z;by_cases aA:dd=aw
     ·have r:=k.below (fR hx) Q;obtain⟨z,t,I,aa⟩:=Sh hx r (wr+1) sI (i:Int) qq (by unfold kP;omega) HQ;obtain⟨el,ee,zs,he,ag⟩:=XJ x;obtain⟨v4,H',w4,aE,J,R,C,ae⟩:=vw UM (fR hx) (ty:=42) he ag t.kY (jd.ext I q) aa oG oG;have aj:Hid (oE (kinds x) env w {z with H:=H'} w4):=zH ⟨t.ext.trans J,R,t.step.vS C⟩;have aq:Hid (jd (kinds x) {z with H:=H'} 9 v4 ((f+1:Nat):Int)):=zH (by rw[show(((f+1:Nat)):Int)=(f:Int)+1 by omega];exact ae);have M:=zH (jd.ext J (jd.ext I g));clear r t I aa J R C ae he ag;subst aA;go_wp2_with (at_builtin;refine wpList_plain rfl fun K' ay=>ve (.tmp 33) (.tmp 38) 42 rfl aE (ay _ _ ?_));go_roundw
      case rel=>exact⟨j+1,f+1,_,S,by go_num,aj,aq,M,oG⟩
      case measure=>exact mI
     ·have r:=zH (k.below (fR hx) Q);go_wp2_with fail;go_roundw
      case rel=>exact⟨j+1,f,d,S,by go_num,r,q,g,oG⟩
      case measure=>exact mI
    ·obtain rfl:j=y:=oG;go_wp2_with fail;go_roundw
     case rel=>exact⟨i+1,f,d,oG,by go_num,k,q,oG⟩
     case measure=>exact mI
  ·have hm: ¬(i:Int)<min (x.eB.length:Int) D:=oG;go_wp2_with fail;go_ret;have af:=jW hx k.kY;obtain rfl:nl=n:=by obtain⟨a',n',c',e,K,-⟩:=q.out;cases e;omega
   refine⟨_,rfl,a,k,put a.ρ 8 (nl:Int),fun s h=>fy h,?_,?_⟩
   ·show jd (kinds x) _ 9 _ (put a.ρ 8 (nl:Int) 8+0);rw[ie,fE];exact q
   ·refine jD.2 ⟨?_,jD.2 ⟨?_,fF _⟩⟩
    ·show put a.ρ 8 _ 0<=put a.ρ 8 _ 8+0;rw[ie,fy dE,af];omega
    ·show put a.ρ 8 _ 8<=put a.ρ 8 _ 0+1000000;rw[ie,fy dE,af];omega
end
end Ra
namespace Ra
open Go.Proofs.Tryz
open Go Go.RowKit jm ko kN
variable {B:jM} {env:Env} {x:fS}
theorem Gh {α:Type} {Q:Nat->α->Prop}: ∀n:Nat,(∀i,i<n-> ∃d,Q i d)-> ∃p:List α,p.length=n/\ ∀(i:Nat) (d:α),p[i]? =some d->Q i d
 |0,_=>⟨[],rfl,fun i d h=>by simp at h⟩
 |n+1,h=>by
  obtain⟨p,f,b⟩:=Gh n fun i m=>h i oG;obtain⟨d,g⟩:=h n oG;refine⟨p++[d],by simp[f],fun i e a=>?_⟩
  rcases iU i p with m|m
  ·rw[fu m] at a;exact b i e a
  ·rw[fo m] at a;have G:=(bX.1 a).1;have c:i-p.length=0:=by simp at G;omega
   rw[c] at a;cases a;obtain rfl:i=n:=oG;exact g
theorem M5 (k:Good (kinds x) env B w) {u:Value} (h:(PC.tc 5 4000).ok (kinds x) env 0 u): ∃d,RL 1 jf w u d/\jS x.eB 4000 d/\ ∀t∈d,t≠[]:=by
 obtain⟨l,⟨-,-,f⟩,-,-⟩:=h
 rcases f with ⟨rfl,-⟩|⟨d,b,-,A,z⟩
 ·exact⟨[],⟨none,0,rfl,lE,by simp[maxLen],fun h=>by simp at h⟩,jS.jL _ _,fun t h=>by cases h⟩
 ·exact⟨d,RL.sub (GO k) oG (fun _ _ h=>jf.sub (GO k) h) b,A,z⟩
theorem Um (k:Good (kinds x) env B w) {v:Value} (h:pn.ok (kinds x) env v): ∃E p,v=.agg #[E]/\jP w E p/\(p.length:Int)=env.ρ 2/\ ∀d∈p,jS x.eB 4000 d/\ ∀t∈d,t≠[]:=by
 obtain⟨S,rfl,h⟩:=h;obtain⟨u,S,rfl,f,h⟩:=jH.cons h;obtain rfl:=jH.nil h;have f:jd (kinds x) env 8 u (env.ρ 2+0):=f;rw[fE] at f;obtain⟨a,n,c,rfl,U,J,P,N,O⟩:=id f;have l: ∀i,i<n-> ∃d,∃b o y,a=some ⟨b,o,none⟩/\b<w.heap.size/\w.cell? (pA b (o+i))=some y/\RL 1 jf w y d/\jS x.eB 4000 d/\ ∀t∈d,t≠[]:=fun i m=>by
  obtain⟨b,o,V,c',e,D,-,H⟩:=zk k f (i:=i) oG;cases e;obtain⟨y,q,F,Q,M⟩:=H 0 (show 0<1 by decide);have L:q=.tc 5 4000:=by have:([PC.tc 5 4000]:List PC)[0]? =some q:=Q;cases this;rfl
  subst L;obtain⟨d,A,z,C⟩:=M5 k M;have K:((kinds x).pat 8).length=1:=rfl;rw[K,jR,gv] at F;exact⟨d,b,o,y,rfl,D,F,A,z,C⟩
 obtain⟨p,s,r⟩:=Gh n l;refine⟨_,p,rfl,⟨a,c,by rw[s],by rw[s];exact J,by rw[qf];exact P,fun G=>?_⟩,oG,fun d g=>?_⟩
 ·obtain⟨d,g⟩:=ec G;obtain⟨b,o,y,rfl,D,-⟩:=r 0 d g;refine⟨b,o,rfl,D,fun i d g=>?_⟩;obtain⟨T,W,y,e,-,F,R,-⟩:=r i d g;cases e;exact⟨[y],rfl,⟨y,rfl,R⟩,fun j u I=>by
   cases j with
   |zero=>simp at I;subst I;simpa using F
   |succ j=>simp at I⟩
 ·obtain⟨i,m⟩:=gz.1 g;obtain⟨-,-,-,-,-,-,-,z,C⟩:=r i d m;exact⟨z,C⟩
section
variable {x:fS} (hx:ga x)
include hx
omit hx in
theorem QI (s:Int) (b:kP s) (l:List Int):kP (Cj s l):=by
 rcases tP l with rfl|⟨a,z,rfl⟩
 ·exact b
 ·rw[BW];unfold Cj;rw[nW];show kP (wrap64 _);unfold kP wrap64;omega
theorem h53:ik x 53 abY:=mZ hx func53 kR kR rfl rfl dE fun env w args k a c=>by obtain⟨v,u,rfl,f,b⟩:=xh a;obtain⟨E,p,rfl,A,z,C⟩:=Um k b;have g:env.ρ 2=x.days:=k.gl 2 (show 2<6 by decide);have i:=hx.head;refine(Cz hx v E p w ⟨A,oG,fun d g=>(C d g).1⟩ (tA hx k f)).mono ?_;rintro e w' ⟨rfl,D⟩;exact⟨_,put env.ρ 6 _,rfl,D,fun s h=>fy h,pP (QI _ (Iy _) _),fF _⟩
end
end Ra
namespace Ra
open Go.Proofs.Tryz
open Go Go.RowKit jm ko kN
theorem XI (x:fS): ∃el ee zs,Hf (kinds x) VV 28 8 el ee zs/\Hd (kinds x) ((kinds x).pat 8) 0 ee.zero.cells.toList=true:=by obtain⟨z,a,h2⟩: ∃z,xl (kinds x) VV 28 8=some z/\Hd (kinds x) ((kinds x).pat 8) 0 z.1.zero.cells.toList=true:=⟨_,rfl,rfl⟩;obtain⟨el,he⟩:=rF a;exact⟨el,_,_,he,h2⟩
section
variable {x:fS} (hx:ga x)
include hx
theorem Ty {env0 env:Env} {w0 s w:World} (h:oE (kinds x) env0 w0 env s) (P:Below s s w) (g:Nat) (hg:g=w) {A:Value} {d:Dy} {lb:Nat} (y:OT lb w A d) (v:s.heap.size<=lb) (Y:jS x.eB 4000 d) (T: ∀t∈d,t≠[]):
  ∃f,oE (kinds x) env0 w0 f (w.alloc (cB 39 [A]))/\Ext (fun _=>true) env f/\(∀b,b<s.heap.size->mW env b->mW f b)/\jd (kinds x) f 8 (.slice g 1 1) 1:=by
 subst hg;have o:=P.size;obtain⟨N,l⟩: ∃N:Nat->Option (Nat×Nat),N=fun k=>if k=w.heap.size then some (8,1) else none:=⟨_,rfl⟩;have i:=P.trans ((bS w w).alloc lE (cB 39 [A])|>.mono o);have a: ∀b t n,N b=some (t,n)->s.heap.size<=b/\(∃c,(w.alloc (cB 39 [A])).heap[b]? =some (.cells c ((kinds x).ty t) (0,0))/\c.size=n/\lA (kinds x) (xM env env.ρ s (w.alloc (cB 39 [A])) N) t c)/\n%((kinds x).pat t).length=0:=fun b t n P=>by
  rw[l] at P;dsimp only at P;split at P
  ·rename_i e;cases P;subst e;refine⟨o,⟨_,World.alloc_heap_new w _,rfl,fun j u hj=>?_⟩,show 1%1=0 from rfl⟩
   match j,hj with
   |0,hj=>
    cases hj;refine⟨.tc 5 4000,rfl,d.length,⟨G5 _,?_,.inr ⟨d,?_,rfl,Y,T⟩⟩,G5 _,?_⟩
    ·have:=Y.len;omega
    ·refine((nN.of y).at (w':=Ka env.h s (w.alloc (cB 39 [A])) N) (fun q m=>?_) (by simp[Ka])).reads;have S:=m.2.lt;show(Ka env.h s (w.alloc (cB 39 [A])) N).heap[q]? =_;rw[M6 (eZ v m.1) (by rw[l];simp;omega)];exact heap_alloc_old w _ S
    ·have:=Y.len;omega
   |j+1,hj=>simp at hj
  ·cases P
 obtain⟨D,h2,p⟩:=h.kY.new (fR hx) i (ρ':=env.ρ) (np:=6) lE (fun _ _=>rfl) a;refine⟨_,h.new (fR hx) i N a,⟨fun _ _=>rfl,fun _ _=>rfl,D.H,D.h⟩,fun b S r=>p.free S r,?_⟩;refine⟨_,1,1,rfl,rfl,lE,oG,nF,fun z h=>?_⟩;cases h;refine⟨rfl,1,?_,rfl,lE⟩;show(match N w with|some x=>some x|none=>env.H w)=_;rw[l];simp
structure Xv (K:gX) (env0:Env) (w0:World) (g:Nat) (env:Env) (w:World) (ov:Value):Prop where
 st:oE K env0 w0 env w
 b1:fc w g 30 [()]
 b2:fc w (g+1) 30 [ov]
 f1:mW env g
 f2:mW env (g+1)
 le:w0.heap.size<=g
theorem Qy:ik x 176 Y8:=CN hx func176 kR kR rfl rfl dE fun env w args hg ha hF=>by
 obtain⟨v,rfl,D⟩:=Vn ha;obtain⟨us,rfl,h⟩:=D;obtain⟨u,us,rfl,D,h⟩:=jH.cons h;obtain rfl:=jH.nil h;have D:jd (kinds x) env 8 u (env.ρ 2+0):=D;rw[fE] at D;obtain⟨a,n,c,rfl,hn,-⟩:=id D;have HV:=zH D;have aE:env.ρ 2=n:=hn.symm;have bJ:n<=64:=by have:=hg.gl 2 (show 2<6 by decide);have h2:env.ρ 2=x.days:=this;have:=hx.head.1;omega
 obtain⟨HN,aM⟩:=Zb aE (oE.refl hg);have ak:=zH fun k (hk:w.heap.size<=k)=>oE.free hg hk;clear D h hF hg ha hn aE;go_enter func176,ntmps176;go_wp2_with fail;go_loopw [12] (fun iv wr=> ∃(k:Nat) (ov:Value) (f:Env),k<=n/\iv=.int .i64 k/\Hid (Xv (kinds x) env w (w+1) f wr ov)/\Hid (jd (kinds x) f 8 ov k)/\Hid (jd (kinds x) f 8 (.slice a n c) n)) (fun iv _=>n-(intOf iv).toNat)
 case atStart=>refine⟨0,(),env,eC _,rfl,zH ⟨?_,(fc.fW _ _ _ sI).alloc _,fc.fW _ _ _ sI,ak.out _ oG,ak.out _ oG,oG⟩,(GM _ _ _),zH (by have:=HV.out;rwa [HN.out] at this)⟩;exact aM.below (fR hx) (bL (bL (bL bF _) _) _)
 case round=>
  obtain⟨k,ov,f,hk,rfl,B,HO,HL⟩:=hrel;have J:=B.b1;have R:=B.b2;have z1:=J.lt;have z2:=R.lt;have bZ:=B.le;obtain⟨ao,N,co,rfl,aZ,-⟩:=id HO;obtain rfl:N=k:=oG;by_cases S:N<n
  ·obtain⟨b,o,n',c',e,P,-,m⟩:=zk B.st.kY HL (i:=N) oG;cases e;obtain⟨ui,p,y0,hp,aG⟩:=m 0 (show 0<1 by decide);have bB:p=.tc 5 4000:=by have:([PC.tc 5 4000]:List PC)[0]? =some p:=hp;cases this;rfl
   subst bB;obtain⟨d,aJ,Y,T⟩:=M5 B.st.kY aG;have aF:((kinds x).pat 8).length=1:=rfl;rw[aF,jR,gv] at y0;obtain⟨A2,c2,rfl,g1,g2,aB⟩:=iK.open_ aJ;obtain⟨HT,HD,aP⟩:=Zc aB Y T;have bU:=Y.len;obtain⟨s,bG⟩:=nE (wr:World);subst bG;clear Y T m aJ aB hp aG aF aZ;go_wp2_with fail;go_loopw [19] (fun iv wr=> ∃(j:Nat) (A:Value),j<=d/\iv=.int .i64 j/\fc wr (s+1) 39 [A]/\
     Hid (OT (s+1+1) wr A (d.take j))/\Below s s wr) (fun iv _=>d.length-(intOf iv).toNat)
   case atStart=>exact⟨0,(),eC _,rfl,fc.fW _ _ _ sI,OL.jL _ _ _ _ _,bL (bL bF _) _⟩
   case round=>
    obtain⟨j,A,hj,rfl,G,aq,l⟩:=hrel;have y1:=G.lt;have yz:=l.size;by_cases aD:j<d
    ·obtain⟨t,ht⟩:=ec aD;obtain⟨b2,o2,rfl,Q,sv,ag,m⟩:=HT j t ht;obtain⟨U,c3,rfl,g3,g4,-⟩:=fQ.open_ ag;have x2:wr.cell? (pA b2 (o2+j))=some (.slice U t c3):=a7 l lE m;have cg:=(HD.get ht).2;have aV:=zH ht;have bI:=bP Q yz;obtain⟨M,bH⟩:=nE (wr:World);subst bH;have aT:=zH (fQ.rs (fQ.below (fQ.below ag l lE) ((bL (bS M M) (cB 44 [.slice U t c3])).drew) lE));have aI:t.length<=1000000000:=oG;have aY:j<=1000000000:=oG;have F:s.heap.size+1+1<=M.heap.size:=oG;obtain⟨bO,r1,r2,r3,r4⟩:=aq.out;have ae:(d.take j).length=j:=by rw[fB];omega
     rw[ae] at r1 r3;obtain⟨aQ,aR,aS,aO⟩:=Zd r1 r2 r4 ae;clear ht m ag r1 r2 r4 ae;go_wp2_with fail;refine rG (fun wS=>wS.cell? (pB (s+1))=some A/\wS.cell? M=some (.slice U t c3)) [7,8,9] (⟨((G.alloc (cB 44 [.slice U t c3])).drew).cell 0,((fc.new M 44 [.slice U t c3]).drew).cell 0⟩) fun hS=>?_;refine kL [0,1,2,3] ?_;refine tO 4 fun K E=>?_;refine BU _ _ _ _ (by rfl) 84 _ 2 16 underlying42 nU rfl dE dE U t c3 (t.flatMap gV) (by rfl) (by rfl) aT (mK t) aI ?_;intro cw w2 L Q;obtain⟨Aq,cq,rfl,-⟩:=RS.jh L;have q:Below M M w2:=(bL (bS M M) (cB 44 [.slice U t.length c3])).drew.trans (Q.mono (show M.heap.size<=_ by simp));have t2:=((fc.new M 44 [.slice U t c3]).drew).below Q sI;have d2:=G.below q G.lt;refine E _ _ (⟨d2.cell 0,t2.cell 0⟩) ?_;refine tO 5 fun K E=>?_;go_simp;refine E _ _ (⟨d2.cell 0,t2.cell 0⟩) ?_;refine tO 6 fun K E=>?_;go_simp;refine E _ _ (⟨(d2.alloc _).cell 0,(t2.alloc _).cell 0⟩) ?_;refine tL 7 fun K E=>?_;refine ma w2 _ _ _ (by rfl) (s+1+1) 44 _ 1 24 underlying37 uz rfl dE dE _ _ _ (jq r3 q lE) (by rfl) [.slice Aq t cq] _ (by rfl) rfl rfl aY (eZ F q.size) ?_;intro g cap w5 bh bW bY aa cj;have az:=aa.below (eZ F q.size);have d5:=d2.below az lS;refine E _ _ ?_;refine tL 8 fun K E=>?_;go_simp;refine E _ _ ?_;refine tL 9 fun K E=>?_;have e5:=d5.c 0;have f5:w5.frozen? (pB (s+1))=false:=d5.frozen 0;go_simp;refine E _ _ ?_;refine tD ?_;go_wp2;go_roundw
     case rel=>
      refine⟨j+1,.slice g (j+1) cap,oG,by go_num,d5.gH 0 _,?_,?_⟩
      ·rw[iC aV.out];refine tT.fG (OL.push aO aQ aR rfl bh (fun a x cs hx hc=>lI.keep (lI.below (aS a x cs hx hc) q lE) aa dE) ⟨_,rfl,zQ.keep ?_ aa dE⟩) lS _;exact⟨t.map gV,by simp,fun cs aX=>by obtain⟨x,_,rfl⟩:=fq.1 aX;rfl,by rw[<-zG];exact kZ L sO,fun i x cs hx hc=>by rw[fh,hx] at hc;exact(by simpa using hc:gV x=cs).symm⟩
      ·exact((l.trans (q.mono yz)).trans (az.mono oG)).setCell (p:=pB (s+1)) (iW _) _
     case measure=>exact mI
    ·obtain rfl:j=d.length:=oG;have aw:Hid (OT (s+1+1) wr A d):=by have:=aq.out;rw[gh] at this;exact this
     obtain⟨Av,cv,rfl,-⟩:=OT.slice aw;obtain⟨el,ee,zs,he,aK⟩:=XI x;obtain⟨C,O,ah,Z,aH⟩:=Ty hx B.st l wr rfl aw oG HD aP;obtain⟨v4,H',w4,bE,ai,aC,r,af⟩:=vw UM (fR hx) (ty:=28) he aK O.kY (jd.ext ah HO) aH oG oG;have V:=Z _ z1 B.f1;have W:=Z _ z2 B.f2;have z:=(J.below l z1).alloc (cB 39 [.slice Av d cv]);have y:=(R.below l z2).alloc (cB 39 [.slice Av d cv]);have aA:=r.ig z.lt V z;have I:=r.ig y.lt W y;have ay:=r.free z.lt V;have X:=r.free y.lt W;have aj:oE (kinds x) env w {C with H:=H'} w4:=⟨O.ext.trans ai,aC,O.step.vS r⟩;have aL:Hid (Xv (kinds x) env w (w+1) {C with H:=H'} (w4.setCell (pB (w+1+1)) v4) v4):=zH ⟨aj.put oG X 0 v4,aA.kj (p:=pB (w+1+1)) dO _,I.gH 0 _,ay,X,oG⟩;have aU:Hid (jd (kinds x) {C with H:=H'} 8 v4 ((N+1:Nat):Int)):=zH (by rw[show(((N+1:Nat)):Int)=(N:Int)+1 by omega];exact af);have aN:=zH (jd.ext ai (jd.ext ah HL));have d3:=(R.below l z2).c 0;have d4:=G.c 0;have e5:=I.c 0;have f5:w4.frozen? (pB (w+1+1))=false:=I.frozen 0;obtain⟨a4,n4,c4,rfl,-⟩:=id af;clear O ah Z aH ai aC r af he aK V W z y aj ay X;go_wp2_with (at_builtin;refine wpList_plain rfl fun K' aW=>ve (.tmp 34) (.tmp 36) 28 rfl bE (aW _ _ ?_));go_roundw
     case rel=>exact⟨N+1,_,_,oG,by go_num,aL,aU,aN⟩
     case measure=>exact mI
  ·obtain rfl:N=n:=oG;have d3:=R.c 0;have d4:wr.frozen? (pB (w+1))=false:=J.frozen 0;have d5:=J.c 0;go_wp2;refine bodyPost_ret (v:=.agg #[.slice ao N co]) (ia rfl _ _ (w+1) 30 [.slice ao N co] _ rfl (J.gH 0 _) underlying30 rfl kR) rfl ?_;refine⟨_,rfl,f,B.st.put oG B.f1 0 _,f.ρ,fun _ _=>rfl,⟨_,rfl,⟨?_,trivial⟩⟩,fF _⟩;have h2:f.ρ 2=env.ρ 2:=B.st.ext.ρ 2 rfl;show jd (kinds x) _ 8 _ (f.ρ 2+0);rw[fE,h2,HN.out];exact HO
end
end Ra
namespace Ra
open Go.Proofs.Tryz
open Go jm ko kN
section
variable {x:fS} (hx:ga x)
include hx
theorem Yk:ik x 276 ZU:=jl hx (.nil x) [] oz func276 kR kR kR
theorem abg:ik x 214 Zw:=jl hx (.nil x) [] oz func214 kR kR kR
theorem abE:ik x 279 ZX:=jl hx (.one (h87 hx) (.nil x)) [] oz func279 kR kR kR
theorem abC:ik x 277 ZV:=jl hx (.one (abI hx) (.nil x)) [] (Xz [(3,13,0,100500),(3,100500,0,13)] [(3,5,8)] []) func277 kR kR kR
theorem abJ:ik x 307 Z2:=jl hx (.one (Yk hx) (.one (Yn hx) (.one (h92 hx) (.nil x)))) [(8,0)] oz func307 kR kR kR
theorem abD:ik x 278 ZW:=jl hx (.one (Wg hx) (.one (abJ hx) (.one (Qy hx) (.one (Yn hx) (.nil x))))) [] oz func278 kR kR kR
theorem Ye:ik x 244 ZI:=jl hx (.one (Yk hx) (.one (Qy hx) (.one (abC hx) (.one (abD hx) (.one (abE hx) (.one (h53 hx) (.nil x))))))) [] (Xz [] [] [(3,8),(10,8)]) func244 kR kR kR
theorem abj:ik x 216 Zy:=jl hx (.one (Ye hx) (.nil x)) [(11,10)] oz func216 kR kR kR
theorem abk:ik x 217 Zz:=jl hx (.one (Qy hx) (.one (Ye hx) (.nil x))) [(19,10)] oz func217 kR kR kR
theorem abl:ik x 218 ZA:=jl hx (.one (Qy hx) (.one (abt hx) (.one (h92 hx) (.nil x)))) [] oz func218 kR kR kR
theorem abf:ik x 213 Zv:=jl hx (.one (abr hx) (.one (abq hx) (.nil x))) [] oz func213 kR kR kR
theorem aa4:ik x 171 Y3:=jl hx (.one (Wg hx) (.nil x)) [(6,3),(4,3)] oz func171 kR kR kR
theorem aa9:ik x 177 Y9:=jl hx (.one (abj hx) (.nil x)) [] oz func177 kR kR kR
theorem aba:ik x 178 Za:=jl hx (.one (abk hx) (.nil x)) [] oz func178 kR kR kR
theorem abb:ik x 179 Zi:=jl hx (.one (abl hx) (.nil x)) [] oz func179 kR kR kR
theorem aa3:ik x 169 Y2:=jl hx (.one (abf hx) (.nil x)) [] (Xz [(1,10,0,100008),(1,100008,0,10),(1,10,0,100009),(1,100009,0,10)] [(1,0,10408)] []) func169 kR kR kR
theorem aa8:ik x 175 Y7:=jl hx (.nil x) [] oz func175 kR kR kR
theorem X4:ik x 169 WM:=jl hx (.one (aa8 hx) (.nil x)) [] oz func169 kR kR kR
theorem aa5:ik x 172 Y4:=jl hx (.one (aa3 hx) (.one (abg hx) (.nil x))) [] oz func172 kR kR kR
theorem aa7:ik x 174 Y6:=jl hx (.nil x) [] oz func174 kR kR kR
theorem abh:ik x 215 Zx:=jl hx (.one (aa7 hx) (.nil x)) [] oz func215 kR kR kR
theorem aa6:ik x 173 Y5:=jl hx (.one (abh hx) (.nil x)) [] oz func173 kR kR kR
end
end Ra
namespace Ra
open Go.Proofs.Tryz
open Go Go.RowKit jm ko kN
variable {env:Env}
abbrev Vw:List BV:=xL++[.any,bi 8,.any,.any,.sl 11 ⟨9,0⟩]
abbrev Vv:List BV:=xL++[.sl 3 ⟨7,0⟩,bi 8,.sl 8 ⟨2,0⟩,.sl 4 ⟨2,0⟩,.sl 11 ⟨9,0⟩]
abbrev MG (env:Env) (g:Nat) (b n:Int):Env:={env with ρ:=put (put env.ρ 8 b) 9 n,β:=fun _=>g}
abbrev Ha (env:Env) (g:Nat) (l b n:Int):Env:={env with ρ:=put (put (put env.ρ 7 l) 8 b) 9 n,β:=fun _=>g}
section
variable {K:gX} (hK:tS K) {env env':Env} {g:Nat} {l b n:Int} {cs:List Value}
include hK
theorem MG.ext (hx:Ext (fun _=>true) env env') (h:jH K (MG env g b n) Vw cs):jH K (MG env' g b n) Vw cs:=
 jH.ext hK (p:=fun _=>true) (env:=MG env g b n) (env':=MG env' g b n) ⟨fun s _=>by show put (put env'.ρ 8 b) 9 n s=put (put env.ρ 8 b) 9 n s;unfold put;split <;>first|rfl|(split <;>first|rfl|exact hx.ρ s rfl),fun _ _=>rfl,hx.H,hx.h⟩ rfl h
theorem Ha.ext (hx:Ext (fun _=>true) env env') (h:jH K (Ha env g l b n) Vv cs):jH K (Ha env' g l b n) Vv cs:=
 jH.ext hK (p:=fun _=>true) (env:=Ha env g l b n) (env':=Ha env' g l b n) ⟨fun s _=>by show put (put (put env'.ρ 7 l) 8 b) 9 n s=put (put (put env.ρ 7 l) 8 b) 9 n s;unfold put;split <;>first|rfl|(split <;>first|rfl|(split <;>first|rfl|exact hx.ρ s rfl)),fun _ _=>rfl,hx.H,hx.h⟩ rfl h
theorem MG.toF (h:jH K (MG env g b n) Vw cs):jH K (Ha env g l b n) Vw cs:=
 jH.ext hK (p:=fun s=>Nat.blt s 10&& !Nat.beq s 7) (env:=MG env g b n) (env':=Ha env g l b n) ⟨fun s c=>by
  have d:s≠7:=by rintro rfl;cases c
  show put (put (put env.ρ 7 l) 8 b) 9 n s=put (put env.ρ 8 b) 9 n s;unfold put;rw[if_neg d],fun _ _=>rfl,fun _ _ h=>h,Sub.refl _⟩ rfl h
theorem Ha.toE (e:env.ρ 0=0) (h:jH K (Ha env g l b n) Vv cs):jH K (MG env g b n) Vw cs:=
 jH.ext hK (p:=fun s=>Nat.blt s 10&& !Nat.beq s 7) (env:=Ha env g l b n) (env':=MG env g b n) ⟨fun s c=>by
  have d:s≠7:=by rintro rfl;cases c
  show put (put env.ρ 8 b) 9 n s=put (put (put env.ρ 7 l) 8 b) 9 n s;unfold put;rw[if_neg d],fun _ _=>rfl,fun _ _ h=>h,Sub.refl _⟩ rfl (jH.lX hK (env:=Ha env g l b n) (F:=[]) (by show put (put (put env.ρ 7 l) 8 b) 9 n 0=0;rw[fy dE,fy dE,fy dE,e]) (fF _) (a:=Vv) (b:=Vw) (by rfl) h)
theorem Ha.of (a: ∀s,s<10->env'.ρ s=put (put (put env.ρ 7 l) 8 b) 9 n s/\env'.β s=g) (h:jH K env' Vv cs):jH K (Ha {env' with ρ:=env.ρ,β:=env.β} g l b n) Vv cs:=
 jH.ext hK (p:=fun s=>Nat.blt s 10) (env:=env') (env':=Ha {env' with ρ:=env.ρ,β:=env.β} g l b n) ⟨fun s c=>((a s (by rwa [fT] at c)).1).symm,fun s c=>((a s (by rwa [fT] at c)).2).symm,fun _ _ h=>h,Sub.refl _⟩ rfl h
end
theorem mW.Hi {b g t n:Nat} (h:mW env b) (a:b≠g):mW {env with H:=fun q=>if q=g then some (t,n) else env.H q} b:=⟨(if_neg a).trans h.1,h.2⟩
theorem Bc {ρ ρ':Nat->Int} (h:ln ρ GF) (e: ∀s,s<6->ρ' s=ρ s):ln ρ' GF:=
 ln.ext (p:=fun s=>Nat.blt s 6) (env:=⟨ρ,fun _=>0,fun _=>none,default⟩) (env':=⟨ρ',fun _=>0,fun _=>none,default⟩) ⟨fun s c=>e s (by rwa [fT] at c),fun _ _=>rfl,fun _ _ h=>h,Sub.refl _⟩ rfl h
structure BI (K:gX) (env0:Env) (w0:World) (g:Nat) (xc:List Value) (cs:List Value) (env:Env) (w:World):Prop where
 st:oE K env0 w0 env w
 bx:fc w g 25 xc
 br:fc w (g+1) 30 [()]
 bw:fc w (g+1+1+1) 234 cs
 f1:mW env g
 f2:mW env (g+1)
 f3:mW env (g+1+1+1)
 le:w0.heap.size<=g
section
variable {K:gX} {env0 env env':Env} {g:Nat} {cs cs':List Value}
theorem BI.step (h:BI K env0 w0 g xc cs env w) (c:Step env (lk []) w [] env' w') (d:oE K env0 w0 env' w'):BI K env0 w0 g xc cs env' w':=
 ⟨d,c.ig h.bx.lt h.f1 h.bx,c.ig h.br.lt h.f2 h.br,c.ig h.bw.lt h.f3 h.bw,c.free h.bx.lt h.f1,c.free h.br.lt h.f2,c.free h.bw.lt h.f3,h.le⟩
theorem BI.VT (h:BI K env0 w0 g xc cs env w) (d:oE K env0 w0 env' w') (e: ∀b,b<w.heap.size->b≠g+1+1+1->mW env b->w'.heap[b]? =w.heap[b]?) (c: ∀b,b<w.heap.size->mW env b->mW env' b) (a:fc w' (g+1+1+1) 234 cs'):BI K env0 w0 g xc cs' env' w':=
 ⟨d,(e g h.bx.lt oG h.f1).trans h.bx,(e (g+1) h.br.lt oG h.f2).trans h.br,a,c _ h.bx.lt h.f1,c _ h.br.lt h.f2,c _ h.bw.lt h.f3,h.le⟩
theorem BI.below (hK:tS K) (h:BI K env0 w0 g xc cs env w) (a:Below w w w'):BI K env0 w0 g xc cs env w':=
 ⟨h.st.below hK a,h.bx.below a h.bx.lt,h.br.below a h.br.lt,h.bw.below a h.bw.lt,h.f1,h.f2,h.f3,h.le⟩
end
section
variable {x:fS} (hx:ga x)
include hx
theorem OM {w:World} (hg:Good (kinds x) env (lk []) w) (hG:ln env.ρ GF) {A1:Option Addr} {c1:Nat} {A2:Option Addr} {c2:Nat} (hxv:xv.ok (kinds x) env (.agg (xC x A1 c1 A2 c2).toArray)) {b:Int} (hb:kP b):
  Calls prog 132 #[.agg (xC x A1 c1 A2 c2).toArray,.int .i64 b] w fun e w'=> ∃a n c z env',e=.returned (.tuple #[.agg #[.slice a n c],.int .i64 z])/\oE (kinds x) env w env' w'/\(z=0->jd (kinds x) env' 8 (.slice a n c) x.days):=by
 have hh:=hx.head;have hmk:=fun W=>BS x.eB oG W;have HF0:=zH (oE.refl hg);have HFF:=zH fun k (hk:w.heap.size<=k)=>oE.free hg hk;obtain⟨HX,HB,HG,HD⟩:=Zd hxv hb hG (hg.gl 2 (show 2<6 by decide));clear hg hxv hb hG;go_enter func132,ntmps132;go_wp2_with fail;have bx:=((fc.new w 25 (xC x A1 c1 A2 c2)).alloc (cB 30 [()])).drew;have hbx:=(bL (bL (bS w w) (cB 25 (xC x A1 c1 A2 c2))) (cB 30 [()])).drew;refine rG (fun wS=>fc wS w 25 (xC x A1 c1 A2 c2)) [] (bx) fun hS=>?_;refine kL [0,1,2,3,4] ?_;refine tO 5 fun K hK=>?_;go_simp;have hS:=bx.alloc (cB 26 (yS x.eB));refine hK _ _ (hS) ?_;clear hK K;refine kL [6] ?_;refine tO 7 fun K hK=>?_;go_simp;have bo:=hS.alloc (cB 234 (hC x A1 c1 A2 c2 () b () () (.slice (pB (w+1+1)) x.eB x.eB)));have HS0:Hid (BI (kinds x) env w w (xC x A1 c1 A2 c2) (hC x A1 c1 A2 c2 () b () () (.slice (pB (w+1+1)) x.eB x.eB)) env _):=zH ⟨HF0.below (fR hx) ((hbx.alloc sO (cB 26 (yS x.eB))).alloc sO (cB 234 (hC x A1 c1 A2 c2 () b () () (.slice (pB (w+1+1)) x.eB x.eB)))),bo,((fc.fW (w.alloc (cB 25 (xC x A1 c1 A2 c2))) 30 [()] (g:=w.heap.size+1) sI).alloc _).alloc _,fc.fW _ _ _ sI,HFF _ lE,HFF _ oG,HFF _ oG,lE⟩;have HO:Hid (uG (kinds x) env w (w+1+1+1) (w+1+1) (fun b=>b=w.heap.size\/b=w.heap.size+1) _ (hC x A1 c1 A2 c2 () b () () (.slice (pB (w+1+1)) x.eB x.eB)) (yS x.eB) (fun _=>0) env _):=zH ⟨HS0.st,HS0.bw,(fc.fW ((w.alloc (cB 25 (xC x A1 c1 A2 c2))).alloc (cB 30 [()])) 26 (yS x.eB) (g:=w.heap.size+1+1) sI).alloc _,HS0.f3,HFF _ oG,oG,oG,oG,fun j v hj=>by
  obtain rfl:v=.slice none 0 0:=Vf (a8 hj);exact GM _ _ _,fun q hq=>by
  rcases hq with rfl|rfl
  ·exact⟨HS0.f1,HS0.bx.lt,oG,rfl⟩
  ·exact⟨HS0.f2,HS0.br.lt,oG,rfl⟩⟩
 have hS:=bo;refine hK _ _ (hS) ?_;clear hK K;refine kL [8] ?_;refine tD ?_;go_wp2_with fail;refine(Qq hx HO HX (by simp[yS])).mono ?_;rintro e w2 ⟨rfl,ps2,env2,ho2,he2,hp2⟩;obtain⟨hf3,hx3⟩:=ho2.st.Hi (fR hx) (t:=11) (n:=x.eB.length) ho2.l2 ho2.f2 ho2.bp (by simpa using hp2) (fun j u hj=>⟨.sx 0 0,by show [PC.sx 0 0][j%1]? =_;rw[pC];rfl,by show jd _ _ 0 u (x.days+0);rw[fE];exact ho2.ok j u (by simpa using hj)⟩) (pC _);obtain⟨k1,-,k3,k4⟩:=ho2.kp _ (.inl rfl);obtain⟨k5,-,k7,k8⟩:=ho2.kp _ (.inr rfl);have HS:=zH (show BI (kinds x) env w w (xC x A1 c1 A2 c2) _ _ w2 from⟨hf3,k4.trans HS0.bx,k8.trans HS0.br,ho2.bw,k1.Hi k3,k5.Hi k7,ho2.f1.Hi ho2.ne,lE⟩);have hok:jH (kinds x) (MG {env2 with H:=fun q=>if q=w.heap.size+1+1 then some (11,x.eB.length) else env2.H q} (w+1+1+1) b x.eB) Vw (hC x A1 c1 A2 c2 () b () () (.slice (pB (w+1+1)) x.eB x.eB)):=by
  obtain⟨us,e,q⟩:=HX.out;obtain rfl:us=xC x A1 c1 A2 c2:=(adf (Value.agg.inj e)).symm;have hx4:=he2.trans hx3;have q2:=jH.ext (fR hx) (p:=fun s=>Nat.blt s 6) (env:=env) (env':={env2 with ρ:=put (put env2.ρ 8 b) 9 x.eB,β:=env.β,H:=fun q=>if q=w.heap.size+1+1 then some (11,x.eB.length) else env2.H q}) ⟨fun s hs=>by rw[fT] at hs;exact(fy oG).trans ((fy oG).trans (hx4.ρ s rfl)),fun _ _=>rfl,hx4.H,hx4.h⟩ rfl q;refine⟨q2.1,q2.2.1,q2.2.2.1,q2.2.2.2.1,q2.2.2.2.2.1,q2.2.2.2.2.2.1,rfl,⟨?_,?_⟩,rfl,rfl,⟨some ⟨w.heap.size+1+1,0,none⟩,x.eB.length,x.eB.length,rfl,?_,lE,oG,nF,fun ad h=>?_⟩,trivial⟩
  ·show Value.int .i64 b=.int .i64 (put (put env2.ρ 8 b) 9 x.eB 8+0);rw[fy dE,ie,fE]
  ·show kP (put (put env2.ρ 8 b) 9 x.eB 8+0);rw[fy dE,ie,fE];exact HB
  ·show _=put (put env2.ρ 8 b) 9 x.eB 9+0;rw[ie,fE]
  ·cases h;refine⟨rfl,x.eB.length,if_pos rfl,AX _,?_⟩;show 0+x.eB.length*1<=x.eB;omega
 have HOK:=zH hok;clear hok hf3 hx3 ho2 he2 hp2 k1 k3 k4 k5 k7 k8 HO HS0 bx hmk;obtain⟨env3,he3⟩:=nR ({env2 with H:=fun q=>if q=w.heap.size+1+1 then some (11,x.eB.length) else env2.H q}:Env);rw[he3] at HS HOK;clear he3;go_wp2_with fail;go_loopw [21] (fun iv wr=> ∃(i:Nat) (env1:Env) (cs:List Value),i<=8/\iv=.int .i64 i/\Hid (BI (kinds x) env w w (xC x A1 c1 A2 c2) cs env1 wr)/\Hid (jH (kinds x) (MG env1 (w+1+1+1) b x.eB) Vw cs)) (fun iv _=>8-(intOf iv).toNat)
 case atStart=>exact⟨0,env3,_,oG,rfl,HS,HOK⟩
 case round=>
  clear HS HOK;obtain⟨i,env1,cs,hi,rfl,HS,HOK⟩:=hrel;have bx:=HS.bx;have bw:=HS.bw;by_cases hlt:i<8
  ·have hlt8:decide ((i:Int)<8)=true:=decide_eq_true oG;obtain⟨pr,hpr,hsl⟩:=HOK.get.2 10 _ rfl;have y0:wr.cell? (pA (w+1+1+1) 10)=some pr:=(bw.cell 10).trans hpr;obtain⟨ap,np,cp,rfl,-⟩:=id hsl;have HSL:Hid (jd (kinds x) env1 11 (.slice ap np cp) x.eB):=zH (by
    have h:jd (kinds x) env1 11 (.slice ap np cp) (put (put env1.ρ 8 b) 9 x.eB 9+0):=hsl
    rwa [ie,fE] at h)
   have HPR:=zH hpr;clear hsl hpr;go_wp2_with fail;refine rG (fun wS=>fc wS w 25 (xC x A1 c1 A2 c2)/\wS.cell? (pA (w+1+1+1) 10)=some (.slice ap np cp)) [] (⟨bx.drew,y0⟩) fun hS=>?_;refine kL [0,1,2,3,4] ?_;refine tO 5 fun K hK=>?_;go_simp;have HS:=zH (HS.below (fR hx) bF.drew);have hz:=jW hx HS.st.kY;refine(HS.st.call (fR hx) (aa4 hx) rfl rfl (put env1.ρ 6 x.eB) (fun s hs=>fy hs) #[_,_] ⟨TV.ext (fR hx) (wz HS.st.ext (np:=6) fun s hs=>fy hs) rfl HX,?_,trivial⟩ ?_).mono ?_
   ·show jd (kinds x) _ 11 _ (put env1.ρ 6 x.eB 6+0);rw[ie,fE];exact HSL
   ·exact ln.ext (wz HS.st.ext (np:=6) fun s hs=>fy hs) rfl HG
   rintro e wb ⟨_,rfl,e4,hf4,hx4,hs4,-,hr4,hp4⟩;obtain⟨us,rfl,h4⟩:=hr4;obtain⟨vv,us1,rfl,h5,h6⟩:=uD.cons (p:=o1 (.sl 3 ⟨7,0⟩)) (ps:=[o1 (bi 8)]) h4;obtain⟨ev,us2,rfl,⟨rfl,-⟩,h7⟩:=uD.cons h6;obtain rfl:=uD.nil h7;obtain⟨l,hl⟩:=nR ((⟨7,0⟩:E).ev e4.ρ);obtain⟨z,hz8⟩:=nR ((⟨8,0⟩:E).ev e4.ρ);have hv:jd (kinds x) {e4 with ρ:=env1.ρ,β:=env1.β} 3 vv l:=by rw[<-hl];exact h5
   obtain⟨av,nv,cv,rfl,-⟩:=id hv;rw[hz8];obtain⟨HOK,HS,HV,HE⟩:=Zd (MG.ext (fR hx) hx4 HOK) (HS.step hs4 hf4) hv hx4;obtain⟨e5,he5⟩:=nR ({e4 with ρ:=env1.ρ,β:=env1.β}:Env);rw[he5] at HS HOK HV HE;clear hf4 hx4 hs4 hp4 h4 h5 h6 h7 hl hz8 hv he5 hz e4;have hS:=And.intro HS.bx ((HS.bw.cell 10).trans HPR);clear bx bw y0 HSL;refine hK _ _ (hS) ?_;clear hK K;refine kL [6,7,8,9,10] ?_;refine tD ?_;have r0:=HS.br.c 0;have r1:=HS.br.frozen 0;by_cases hz0:z=0
   ·have hzn:(z !=0)=false:=by simp[hz0]
    go_wp2_with fail;have hρ9: ∀s,s<6->put (put (put e5.ρ 7 l) 8 b) 9 x.eB.length s=e5.ρ s:=fun s hs=>by rw[fy oG,fy oG,fy oG]
    refine(HS.st.Cv (fR hx) (aa5 hx) (q:=6) (ys:=Vv) rfl (.inl rfl) oG HS.f3 HS.bw (put (put (put e5.ρ 7 l) 8 b) 9 x.eB) hρ9 #[_,_] (MG.toF (fR hx) HOK) ⟨rfl,?_,trivial⟩ (Bc HG fun s hs=>(hρ9 s hs).trans (HS.st.ext.ρ s rfl)) dE).mono ?_
    ·show jd (kinds x) _ 3 _ (put (put (put e5.ρ 7 l) 8 b) 9 x.eB 7+0);rw[fy dE,fy dE,ie,fE];exact HV
    rintro e wc ⟨_,rfl,e6,cs2,hf6,hx6,hz6,hk6,hfr6,hb6,hc6,hr6,⟨rfl,-⟩,-⟩;obtain⟨y,hy⟩:=nR ((⟨10,0⟩:E).ev e6.ρ);rw[hy];have hc7:=Ha.of (fR hx) (env:=e5) hr6 hc6;obtain⟨HC,HS6⟩:=Zb hc7 (HS.VT hf6 hk6 hfr6 hb6);obtain⟨e7,he7⟩:=nR ({e6 with ρ:=e5.ρ,β:=e5.β}:Env);rw[he7] at HS6 HC;clear hf6 hx6 hz6 hk6 hfr6 hb6 hc6 hr6 hc7 he7 hy e6 HS HOK r0 r1 HPR;have hd2:put (put (put e7.ρ 7 l) 8 b) 9 x.eB.length 2=x.days:=by rw[fy dE,fy dE,fy dE];exact HS6.st.kY.gl 2 (show 2<6 by decide)
    obtain⟨pv,hpv,hps⟩:=HC.get.2 8 _ rfl;obtain⟨fv,hfv,hfs⟩:=HC.get.2 9 _ rfl;have HP:Hid (jd (kinds x) e7 8 pv x.days):=zH (by
     have h:jd (kinds x) e7 8 pv (put (put (put e7.ρ 7 l) 8 b) 9 x.eB 2+0):=hps
     rwa [hd2,fE] at h)
    have HF:Hid (jd (kinds x) e7 4 fv x.days):=zH (by
     have h:jd (kinds x) e7 4 fv (put (put (put e7.ρ 7 l) 8 b) 9 x.eB 2+0):=hfs
     rwa [hd2,fE] at h)
    obtain⟨apv,npv,cpv,rfl,-⟩:=id hps;obtain⟨afv,nfv,cfv,rfl,-⟩:=id hfs;have y8:wc.cell? (pA (w+1+1+1) 8)=some (.slice apv npv cpv):=(HS6.bw.cell 8).trans hpv;have y9:wc.cell? (pA (w+1+1+1) 9)=some (.slice afv nfv cfv):=(HS6.bw.cell 9).trans hfv;have r0:=HS6.br.c 0;have r1:=HS6.br.frozen 0;clear hps hfs hpv hfv hd2;by_cases hy0:y=0
    ·have hyn:(y==0)=true:=by simp[hy0]
     go_wp2_with fail;refine bodyPost_ret (iw rfl _ _ (w+1) 30 [.slice apv npv cpv] _ Zo rfl rfl (HS6.br.gH 0 _) underlying30 rfl kR) rfl ⟨apv,npv,cpv,0,e7,rfl,HS6.st.put oG HS6.f2 0 _,fun _=>HP⟩
    ·have hyn:(y==0)=false:=by simp[hy0]
     go_wp2_with fail;refine(HS6.st.call (fR hx) (aa6 hx) rfl rfl (put e7.ρ 6 x.days) (fun s hs=>fy hs) #[_,_] ⟨?_,⟨[],[],rfl,trivial,trivial⟩,trivial⟩ (wH ?_)).mono ?_
     ·show jd (kinds x) _ 4 _ (put e7.ρ 6 x.days 6+0);rw[ie,fE];exact HF
     ·show put e7.ρ 6 x.days 0<=put e7.ρ 6 x.days 6+0;rw[ie,fy dE,jW hx HS6.out.st.kY];omega
     rintro e wd ⟨_,rfl,e8,hf8,hx8,hs8,-,⟨bb,rfl⟩,-⟩;obtain⟨HC,HS⟩:=Zb (Ha.ext (fR hx) hx8 HC) (HS6.step hs8 hf8);clear hf8 hx8 hs8 HS6 r0 r1 y8 y9;have r0:=HS.br.c 0;have r1:=HS.br.frozen 0;cases bb
     ·go_wp2_with fail;have hρ8: ∀s,s<6->put (put (put e7.ρ 7 l) 8 b) 9 x.eB.length s=e7.ρ s:=fun s hs=>by rw[fy oG,fy oG,fy oG]
      refine(HS.st.Cv (fR hx) (X4 hx) (q:=6) (ys:=Vv) rfl (.inr ⟨rfl,rfl⟩) oG HS.f3 HS.bw (put (put (put e7.ρ 7 l) 8 b) 9 x.eB) hρ8 #[_,_] HC ⟨rfl,⟨[_],[],rfl,⟨rfl,trivial⟩,trivial⟩,trivial⟩ (Bc HG fun s hs=>(hρ8 s hs).trans (HS.st.ext.ρ s rfl)) dE).mono ?_;rintro e we ⟨_,rfl,e9,cs3,hf9,hx9,hz9,hk9,hfr9,hb9,hc9,hr9,⟨us9,rfl,h9⟩,-⟩;obtain rfl:=uD.nil h9;have hc10:=Ha.of (fR hx) (env:={e8 with ρ:=e7.ρ,β:=e7.β}) hr9 hc9;have HS9:=zH (HS.VT hf9 hk9 hfr9 hb9);have HOK:=zH (Ha.toE (fR hx) (jW hx HS9.st.kY) hc10);clear hf9 hx9 hz9 hk9 hfr9 hb9 hc9 hr9 hc10 h9 HS HC r0 r1;go_wp2_with fail;go_roundw
      case rel=>exact⟨i+1,_,cs3,oG,by go_num,HS9,HOK⟩
      case measure=>exact mI
     ·go_wp2_with fail;refine bodyPost_ret (iw rfl _ _ (w+1) 30 [()] _ (.int .i64 15) rfl rfl (HS.br.gH 0 _) underlying30 rfl kR) rfl ⟨none,0,0,15,_,rfl,HS.st.put oG HS.f2 0 _,fun h=>by cases h⟩
   ·have hzn:(z !=0)=true:=by simp[hz0]
    go_wp2_with fail;refine bodyPost_ret (iw rfl _ _ (w+1) 30 [()] _ (.int .i64 15) rfl rfl (HS.br.gH 0 _) underlying30 rfl kR) rfl ⟨none,0,0,15,e5,rfl,HS.st.put oG HS.f2 0 _,fun h=>by cases h⟩
  ·have hlt8:decide ((i:Int)<8)=false:=decide_eq_false oG;have r0:=HS.br.c 0;have r1:=HS.br.frozen 0;go_wp2_with fail;refine bodyPost_ret (iw rfl _ _ (w+1) 30 [()] _ (.int .i64 15) rfl rfl (HS.br.gH 0 _) underlying30 rfl kR) rfl ⟨none,0,0,15,env1,rfl,HS.st.put oG HS.f2 0 _,fun h=>by cases h⟩
end
end Ra
namespace Ra
open Go.Proofs.Tryz
open Go Go.RowKit jm ko kN
variable {env:Env}
abbrev WU:List BV:=xL++[.sl 8 ⟨2,0⟩,bi 7,bi 8,bi 9,bi 10]
abbrev VS (env:Env) (g:Nat) (a b d q:Int):Env:={env with ρ:=put (put (put (put env.ρ 7 a) 8 b) 9 d) 10 q,β:=fun _=>g}
section
variable {K:gX} (hK:tS K) {env env':Env} {g:Nat} {a b d q:Int} {cs:List Value}
include hK
theorem VS.of (c: ∀s,s<11->env'.ρ s=put (put (put (put env.ρ 7 a) 8 b) 9 d) 10 q s/\env'.β s=g) (h:jH K env' WU cs):jH K (VS {env' with ρ:=env.ρ,β:=env.β} g a b d q) WU cs:=
 jH.ext hK (p:=fun s=>Nat.blt s 11) (env:=env') (env':=VS {env' with ρ:=env.ρ,β:=env.β} g a b d q) ⟨fun s i=>((c s (by rwa [fT] at i)).1).symm,fun s i=>((c s (by rwa [fT] at i)).2).symm,fun _ _ h=>h,Sub.refl _⟩ rfl h
end
theorem jH.app {K:gX} : ∀{a b:List BV} {u v:List Value},jH K env a u->jH K env b v->jH K env (a++b) (u++v)
 | [],b,[],v,_,h=>h
 |x::a,b,y::u,v,h,k=>⟨h.1,jH.app h.2 k⟩
theorem aab {x:fS} (hx:ga x) {env':Env} {l:List Value} (h:xv.ok (kinds x) env (.agg l.toArray)) (g:Ext (fun _=>true) env env') {ρ':Nat->Int} (hρ: ∀s,s<6->ρ' s=env'.ρ s) (m:Nat->Nat):jH (kinds x) {env' with ρ:=ρ',β:=m} xL l:=by
 obtain⟨j,e,q⟩:=h;obtain rfl:j=l:=(adf (Value.agg.inj e)).symm;have k:=jH.ext (fR hx) (p:=fun s=>Nat.blt s 6) (env:=env) (env':={env' with ρ:=ρ',β:=env.β}) ⟨fun s i=>by rw[fT] at i;exact(hρ s i).trans (g.ρ s rfl),fun _ _=>rfl,g.H,g.h⟩ rfl q
 match j,k with
 | [a,b,c,d,e,f],k=>exact k
abbrev sC (x:fS) (A1:Option Addr) (c1:Nat) (A2:Option Addr) (c2:Nat) (pv:Value) (a b d q:Int):List Value:=(yX x A1 c1 A2 c2 [pv,a,b,d,q])
section
variable {x:fS}
theorem R0 (e:env.ρ 2=x.days) {a:Value} (h:jd (kinds x) env 8 a x.days):pn.ok (kinds x) env (.agg #[a]):=
 ⟨[a],rfl,(by show jd (kinds x) env 8 a (env.ρ 2+0);rw[e,fE];exact h),trivial⟩
theorem WA (e:env.ρ 2=x.days) {v:Value} (h:pn.ok (kinds x) env v): ∃a n c,v=.agg #[.slice a n c]/\jd (kinds x) env 8 (.slice a n c) x.days:=by obtain⟨j,rfl,h⟩:=h;obtain⟨u,j,rfl,f,h⟩:=jH.cons h;obtain rfl:=jH.nil h;have b:jd (kinds x) env 8 u (env.ρ 2+0):=f;rw[e,fE] at b;obtain⟨a,n,c,rfl,-⟩:=id b;exact⟨a,n,c,rfl,b⟩
variable (hx:ga x)
include hx
theorem sF {w:World} {a b d q:Int} {ρ:Nat->Int} (h:ln (put (put (put (put ρ 7 a) 8 b) 9 d) 10 q) GF) (g:put (put (put (put ρ 7 a) 8 b) 9 d) 10 q 0=env.ρ 0) (f:put (put (put (put ρ 7 a) 8 b) 9 d) 10 q 1=env.ρ 1) (e:Good (kinds x) env (lk []) w) (l:0<=a/\a<x.eB) (m:0<=b/\b<x.eB):ln (put (put (put (put ρ 7 a) 8 b) 9 d) 10 q) (GF++iF 7++iF 8):=by
 have i:=g.trans (jW hx e);have c:=f.trans (e.gl 1 (show 1<6 by decide));have c:put (put (put (put ρ 7 a) 8 b) 9 d) 10 q 1=x.eB.length:=c;have j:put (put (put (put ρ 7 a) 8 b) 9 d) 10 q 7=a:=by rw[fy dE,fy dE,fy dE,ie]
 have k:put (put (put (put ρ 7 a) 8 b) 9 d) 10 q 8=b:=by rw[fy dE,fy dE,ie]
 refine lP.2 ⟨lP.2 ⟨h,qG ?_ ?_⟩,qG ?_ ?_⟩
 ·show put (put (put (put ρ 7 a) 8 b) 9 d) 10 q 0<=put (put (put (put ρ 7 a) 8 b) 9 d) 10 q 7+0;omega
 ·show put (put (put (put ρ 7 a) 8 b) 9 d) 10 q 7<=put (put (put (put ρ 7 a) 8 b) 9 d) 10 q 1+ -1;omega
 ·show put (put (put (put ρ 7 a) 8 b) 9 d) 10 q 0<=put (put (put (put ρ 7 a) 8 b) 9 d) 10 q 8+0;omega
 ·show put (put (put (put ρ 7 a) 8 b) 9 d) 10 q 8<=put (put (put (put ρ 7 a) 8 b) 9 d) 10 q 1+ -1;omega
theorem mc {env0 env:Env} {w0 w:World} {L:List Kb} {gs:Nat} {st:Int} {A1:Option Addr} {c1:Nat} {A2:Option Addr} {c2:Nat} {a:Option Addr} {n c:Nat} {q:Int}
  (h:uF (kinds x) env0 w0 ((gs,188,[.int .u64 st])::L) env w) (hG:ln env0.ρ GF) (hxv:xv.ok (kinds x) env0 (.agg (xC x A1 c1 A2 c2).toArray)) (hp:jd (kinds x) env 8 (.slice a n c) x.days) (hq:kP q):
  Calls prog 133 #[.agg (xC x A1 c1 A2 c2).toArray,.agg #[.slice a n c],.pointer (some ⟨gs,0,none⟩),q] w fun e w'=> ∃a' n' c' st' env',e=.returned (.agg #[.slice a' n' c'])/\uF (kinds x) env0 w0 ((gs,188,[.int .u64 st'])::L) env' w'/\jd (kinds x) env' 8 (.slice a' n' c') x.days:=by
 have hh:=hx.head;have HX:=zH hxv;have HG:=zH hG;have HQ:=zH hq;have HP:=zH hp;have HS:=zH (((h.new (fR hx) 25 (xC x A1 c1 A2 c2) rfl).new (fR hx) 30 [.slice a n c] (g:=w.heap.size+1) sI).new (fR hx) 30 [()] (g:=w.heap.size+1+1) sI);clear hxv hG hq hp h;go_enter func133,ntmps133;go_wp2_with fail;have HS:=zH (HS.out.below (fR hx) bF.drew);refine rG (fun wS=>fc wS w.heap.size 25 (xC x A1 c1 A2 c2)/\wS.cell? ⟨w.heap.size+1,0,none⟩=some (.slice a n c)) [] (⟨(HS.out.ig (L1:=[_,_])).1,(HS.out.ig (L1:=[_])).1.cell 0⟩) fun hS=>?_;refine tk 0 hS ?_;refine tk 1 hS ?_;refine tk 3 hS ?_;refine tO 2 fun K hK=>?_;go_simp;refine(HS.out.call (fR hx) (Qy hx) rfl rfl env.ρ (fun s hs=>rfl) #[_] ⟨R0 (HS.out.st.kY.gl 2 (show 2<6 by decide)) HP.out,trivial⟩ (Bc HG.out fun s hs=>HS.out.st.ext.ρ s rfl)).mono ?_;rintro e wb ⟨_,rfl,e2,hs2,hx2,hr2,hv2,-⟩;obtain⟨a2,n2,c2',rfl,hp2⟩:=WA ((hr2 2 (show 2<6 by decide)).trans (HS.out.st.kY.gl 2 (show 2<6 by decide))) hv2;have HP:Hid (jd (kinds x) {e2 with ρ:=env.ρ,β:=env.β} 8 (.slice a2 n2 c2') x.days):=zH hp2;have HS:=zH hs2;obtain⟨e3,he3⟩:=nR ({e2 with ρ:=env.ρ,β:=env.β}:Env);rw[he3] at HP HS;clear hs2 hx2 hr2 hv2 hp2 he3 e2;have hS:=And.intro (HS.out.ig (L1:=[_,_])).1 ((HS.out.ig (L1:=[_])).1.cell 0);refine hK _ _ (hS) ?_;clear hK K;refine tk 4 hS ?_;refine tO 5 fun K hK=>?_;go_simp;have HS:=zH (HS.out.new (fR hx) 245 (sC x A1 c1 A2 c2 (.slice a2 n2 c2') 0 0 0 q) (g:=wb.heap.size) rfl);have hS:=And.intro (HS.out.ig (L1:=[_,_,_])).1 ((HS.out.ig (L1:=[_,_])).1.cell 0);refine hK _ _ (hS) ?_;clear hK K;refine tk 6 hS ?_;refine tD ?_;obtain⟨gr,hgr⟩:=nE wb.heap.size;rw[<-hgr] at HS|-
 have HGR:=zH hgr;clear hgr;revert HS;show Hid (uF _ _ _ _ _ (wb.alloc (.cells #[.int .i64 x.days,.int .i64 x.mm,.int .i64 x.cap,.int .i64 x.len,.slice A1 x.eB.length c1,.slice A2 x.gn.length c2,.slice a2 n2 c2',.int .i64 0,.int .i64 0,.int .i64 0,.int .i64 q] 245)))->_;clear hS;generalize wb.alloc (cB 245 (yX x A1 c1 A2 c2 [.slice a2 n2 c2',Zo,Zo,Zo,q]))=W;intro HS;have bx:=(HS.out.ig (L1:=[_,_,_])).1;have d0:=bx.c 0;have d4:=bx.c 4;have b2:=(HS.out.ig (L1:=[_])).1;have r0:=b2.c 0;have r1:=b2.frozen 0;have bs:=(HS.out.ig (L1:=[])).1;have s6:=bs.c 6;clear bx b2 bs;by_cases hn0:x.eB.length=0
 ·have hni:((x.eB.length:Int)==0)=true:=by simp[hn0]
  go_wp2_with fail;refine bodyPost_ret (v:=.agg #[.slice a2 n2 c2']) (ia rfl _ _ (w.heap.size+1+1) 30 [.slice a2 n2 c2'] _ rfl ((HS.out.put (L1:=[_]) 0 (.slice a2 n2 c2')).ig (L1:=[_])).1 underlying30 rfl kR) rfl ?_;exact⟨a2,n2,c2',st,e3,rfl,(HS.out.put (L1:=[_]) 0 (.slice a2 n2 c2')).mono (.cons _ (.cons _ (.cons _ (.cons _ (.refl _))))),HP.out⟩
 ·have hni:((x.eB.length:Int)==0)=false:=by simp only[beq_eq_false_iff_ne,ne_eq];omega
  have hc1:1<=(x.eB.length:Int):=oG;clear hn0;go_wp2_with fail;refine(HS.out.draw (L1:=[_,_,_,_]) (n:=x.eB.length) oG).mono ?_;rintro e w3 ⟨k1,rfl,hk1,st1,h3⟩;have HK1:=zH (hk1 hc1);have HS:=zH h3;clear h3 hk1 d0 d4 r0 r1 s6;have d0:=(HS.out.ig (L1:=[_,_,_])).1.cell 0;have d7:=(HS.out.ig (L1:=[])).1.cell 7;have f7:=(HS.out.ig (L1:=[])).1.frozen 7;simp only[fD,fK,fI,fJ] at d0 d7 f7;go_wp2_with fail;have HS:=zH (HS.out.put (L1:=[]) 7 k1);refine(HS.out.draw (L1:=[_,_,_,_]) (n:=x.eB.length) oG).mono ?_;rintro e w4 ⟨k2,rfl,hk2,st2,h4⟩;have HK2:=zH (hk2 hc1);have HS:=zH h4;clear h4 hk2 d0 d7 f7;have d0:=(HS.out.ig (L1:=[_,_,_])).1.cell 0;have d8:=(HS.out.ig (L1:=[])).1.cell 8;have f8:=(HS.out.ig (L1:=[])).1.frozen 8;simp only[fD,fK,fI,fJ] at d0 d8 f8;go_wp2_with fail;have HS:=zH (HS.out.put (L1:=[]) 8 k2);refine(HS.out.draw (L1:=[_,_,_,_]) (n:=x.days) oG).mono ?_;rintro e w5 ⟨k3,rfl,hk3,st3,h5⟩;have HK3:=zH (hk3 hh.1.1);have HS:=zH h5;clear h5 hk3 d0 d8 f8;have d0:=(HS.out.ig (L1:=[_,_,_])).1.cell 0;have d9:=(HS.out.ig (L1:=[])).1.cell 9;have f9:=(HS.out.ig (L1:=[])).1.frozen 9;simp only[fD,fK,fI,fJ] at d0 d9 f9;go_wp2_with fail;obtain⟨gf,hgf⟩:=nE w5.heap.size;have HGF:=zH hgf;have HS:=zH ((HS.out.put (L1:=[]) 9 k3).new (fR hx) 1 [.func (.func 177) #[.pointer (some ⟨gr,0,none⟩)] #[],.func (.func 178) #[.pointer (some ⟨gr,0,none⟩)] #[],.func (.func 179) #[.pointer (some ⟨gr,0,none⟩)] #[]] (g:=gf) (by rw[hgf];simp[World.setCell]));have HOK:Hid (jH (kinds x) (VS e3 gr k1 k2 k3 q) WU (sC x A1 c1 A2 c2 (.slice a2 n2 c2') k1 k2 k3 q)):=zH (jH.app (aab hx HX.out HS.out.st.ext (fun s hs=>by rw[fy oG,fy oG,fy oG,fy oG]) _) ⟨by
   show jd (kinds x) _ 8 _ (put (put (put (put e3.ρ 7 k1) 8 k2) 9 k3) 10 q 2+0);rw[fy dE,fy dE,fy dE,fy dE,HS.out.st.kY.gl 2 (show 2<6 by decide),fE];exact HP.out,⟨by
   show Value.int .i64 k1=.int .i64 (put (put (put (put e3.ρ 7 k1) 8 k2) 9 k3) 10 q 7+0);rw[fy dE,fy dE,fy dE,ie,fE],by
   show kP (put (put (put (put e3.ρ 7 k1) 8 k2) 9 k3) 10 q 7+0);rw[fy dE,fy dE,fy dE,ie];have:=HK1.out;unfold kP;omega⟩,⟨by
   show Value.int .i64 k2=.int .i64 (put (put (put (put e3.ρ 7 k1) 8 k2) 9 k3) 10 q 8+0);rw[fy dE,fy dE,ie,fE],by
   show kP (put (put (put (put e3.ρ 7 k1) 8 k2) 9 k3) 10 q 8+0);rw[fy dE,fy dE,ie];have:=HK2.out;unfold kP;omega⟩,⟨by
   show Value.int .i64 k3=.int .i64 (put (put (put (put e3.ρ 7 k1) 8 k2) 9 k3) 10 q 9+0);rw[fy dE,ie,fE],by
   show kP (put (put (put (put e3.ρ 7 k1) 8 k2) 9 k3) 10 q 9+0);rw[fy dE,ie];have:=HK3.out;unfold kP;omega⟩,⟨by
   show Value.int .i64 q=.int .i64 (put (put (put (put e3.ρ 7 k1) 8 k2) 9 k3) 10 q 10+0);rw[ie,fE],by
   show kP (put (put (put (put e3.ρ 7 k1) 8 k2) 9 k3) 10 q 10+0);rw[ie,fE];exact HQ.out⟩,trivial⟩)
  clear d0 d9 f9;rw[<-hgf];clear hgf;go_loopw [55] (fun iv wr=> ∃(i:Nat) (env1:Env) (cs:List Value) (st':Int),i<=3/\iv=.int .i64 i/\Hid (uF (kinds x) env0 w0 ((gf,1,[.func (.func 177) #[.pointer (some ⟨gr,0,none⟩)] #[],.func (.func 178) #[.pointer (some ⟨gr,0,none⟩)] #[],.func (.func 179) #[.pointer (some ⟨gr,0,none⟩)] #[]])::(gr,245,cs)::(w.heap.size+1+1,30,[()])::(w.heap.size+1,30,[.slice a n c])::(w.heap.size,25,xC x A1 c1 A2 c2)::(gs,188,[.int .u64 st'])::L) env1 wr)/\Hid (jH (kinds x) (VS env1 gr k1 k2 k3 q) WU cs)) (fun iv _=>3-(intOf iv).toNat)
  case atStart=>exact⟨0,e3,_,st3,oG,rfl,HS,HOK⟩
  case round=>
   clear HS HOK HP;obtain⟨i,env1,cs,st4,hi,rfl,HS,HOK⟩:=hrel;have hi4:i=0\/i=1\/i=2\/i=3:=oG;have y0:=(HS.out.ig (L1:=[])).1.c 0;have y1:=(HS.out.ig (L1:=[])).1.c 1;have y2:=(HS.out.ig (L1:=[])).1.c 2
   rcases hi4 with rfl|rfl|rfl|rfl
   ·go_wp2_with fail;have hρ: ∀s,s<6->put (put (put (put env1.ρ 7 k1) 8 k2) 9 k3) 10 q s=env1.ρ s:=fun s hs=>by rw[fy oG,fy oG,fy oG,fy oG]
    refine(HS.out.Cv (L1:=[_]) (fR hx) (aa9 hx) (q:=6) (ys:=WU) rfl (.inl rfl) (put (put (put (put env1.ρ 7 k1) 8 k2) 9 k3) 10 q) hρ #[_] HOK.out ⟨rfl,trivial⟩ (sF hx (Bc HG.out fun s hs=>(hρ s hs).trans (HS.out.st.ext.ρ s rfl)) (hρ 0 dE) (hρ 1 dE) HS.out.st.kY HK1.out HK2.out) dE).mono ?_;rintro e we ⟨_,rfl,e9,cs3,hs9,hx9,hc9,hr9,⟨us9,rfl,h9⟩,-⟩;obtain rfl:=uD.nil h9;have hc10:=VS.of (fR hx) (env:=env1) hr9 hc9;have HS:=zH hs9;have HOK:=zH hc10;clear hs9 hx9 hc9 hr9 h9 hc10 hρ y0 y1 y2;go_wp2_with fail;go_roundw
    case rel=>exact⟨1,_,cs3,st4,oG,by go_num,HS,HOK⟩
    case measure=>simp[intOf]
   ·go_wp2_with fail;have hρ: ∀s,s<6->put (put (put (put env1.ρ 7 k1) 8 k2) 9 k3) 10 q s=env1.ρ s:=fun s hs=>by rw[fy oG,fy oG,fy oG,fy oG]
    refine(HS.out.Cv (L1:=[_]) (fR hx) (aba hx) (q:=6) (ys:=WU) rfl (.inl rfl) (put (put (put (put env1.ρ 7 k1) 8 k2) 9 k3) 10 q) hρ #[_] HOK.out ⟨rfl,trivial⟩ (sF hx (Bc HG.out fun s hs=>(hρ s hs).trans (HS.out.st.ext.ρ s rfl)) (hρ 0 dE) (hρ 1 dE) HS.out.st.kY HK1.out HK2.out) dE).mono ?_;rintro e we ⟨_,rfl,e9,cs3,hs9,hx9,hc9,hr9,⟨us9,rfl,h9⟩,-⟩;obtain rfl:=uD.nil h9;have hc10:=VS.of (fR hx) (env:=env1) hr9 hc9;have HS:=zH hs9;have HOK:=zH hc10;clear hs9 hx9 hc9 hr9 h9 hc10 hρ y0 y1 y2;go_wp2_with fail;go_roundw
    case rel=>exact⟨2,_,cs3,st4,oG,by go_num,HS,HOK⟩
    case measure=>simp[intOf]
   ·go_wp2_with fail;have hρ: ∀s,s<6->put (put (put (put env1.ρ 7 k1) 8 k2) 9 k3) 10 q s=env1.ρ s:=fun s hs=>by rw[fy oG,fy oG,fy oG,fy oG]
    refine(HS.out.Cv (L1:=[_]) (fR hx) (abb hx) (q:=6) (ys:=WU) rfl (.inl rfl) (put (put (put (put env1.ρ 7 k1) 8 k2) 9 k3) 10 q) hρ #[_] HOK.out ⟨rfl,trivial⟩ (sF hx (Bc HG.out fun s hs=>(hρ s hs).trans (HS.out.st.ext.ρ s rfl)) (hρ 0 dE) (hρ 1 dE) HS.out.st.kY HK1.out HK2.out) dE).mono ?_;rintro e we ⟨_,rfl,e9,cs3,hs9,hx9,hc9,hr9,⟨us9,rfl,h9⟩,-⟩;obtain rfl:=uD.nil h9;have hc10:=VS.of (fR hx) (env:=env1) hr9 hc9;have HS:=zH hs9;have HOK:=zH hc10;clear hs9 hx9 hc9 hr9 h9 hc10 hρ y0 y1 y2;go_wp2_with fail;go_roundw
    case rel=>exact⟨3,_,cs3,st4,oG,by go_num,HS,HOK⟩
    case measure=>simp[intOf]
   ·obtain⟨pv,hpv,hps⟩:=HOK.out.get.2 6 _ rfl;have HP:Hid (jd (kinds x) env1 8 pv x.days):=zH (by have h:jd (kinds x) env1 8 pv (put (put (put (put env1.ρ 7 k1) 8 k2) 9 k3) 10 q 2+0):=hps;rw[fy dE,fy dE,fy dE,fy dE,HS.out.st.kY.gl 2 (show 2<6 by decide),fE] at h;exact h);obtain⟨av,nv,cv,rfl,-⟩:=id hps;have s6:=((HS.out.ig (L1:=[_])).1.cell 6).trans hpv;have r0:=(HS.out.ig (L1:=[_,_])).1.c 0;have r1:=(HS.out.ig (L1:=[_,_])).1.frozen 0;clear y0 y1 y2 hpv hps;go_wp2_with fail;refine bodyPost_ret (v:=.agg #[.slice av nv cv]) (ia rfl _ _ (w.heap.size+1+1) 30 [.slice av nv cv] _ rfl ((HS.out.put (L1:=[_,_]) 0 (.slice av nv cv)).ig (L1:=[_,_])).1 underlying30 rfl kR) rfl ?_;exact⟨av,nv,cv,st4,env1,rfl,(HS.out.put (L1:=[_,_]) 0 (.slice av nv cv)).mono (.cons _ (.cons _ (.cons _ (.cons _ (.cons _ (.refl _)))))),HP.out⟩
end
end Ra
namespace Ra
open Go.Proofs.Tryz
open Go Go.RowKit jm ko kN
variable {A1 A2 O:Option Addr} {L:List Kb} {P Q c1 c2 t:Nat} {env env0:Env} {q r z:Int}
def Ub (s:Int) (w:World):Calls prog 80 #[s] w fun e w'=> ∃st:Int,e=.returned (.pointer w)/\w'=w.alloc (cB 188 [.int .u64 st]):=by go_enter func80,ntmps80;go_wp2;go_ret;exact⟨_,rfl,rfl⟩
section
variable {x:fS}
def Js (j:ga x) {L1:List Kb} {a:Option Addr} {n c:Nat} (h:uF (kinds x) env0 w0 (L1++(t,30,[.slice O Q P])::L) env w):
  Calls prog 86 #[.agg #[.slice a n c],.pointer t] w fun e w'=>e=.returned (.tuple #[])/\uF (kinds x) env0 w0 (L1++(t,30,[.slice a n c])::L) env w':=by
 have d:=zH (h.new (fR j) 30 [.slice a n c] (g:=w.heap.size) rfl);have i:=(d.ig (L1:=(w.heap.size,30,[.slice a n c])::L1)).1.c 0;have k:=(d.ig (L1:=(w.heap.size,30,[.slice a n c])::L1)).1.frozen 0;have f:=h.ig.1.lt;have b:=zH h;clear h;go_enter func86,ntmps86;go_wp2_with fail
 go_end0
 refine⟨rfl,?_⟩;exact((b.put 0 (.slice a n c)).new (fR j) 30 [.slice a n c] rfl).mono (.cons _ (.refl _))
def SL (j:ga x)
  (h:uF (kinds x) env0 w0 ((t,30,[.slice O Q P])::L) env w) (D:ln env0.ρ GF) (m:xv.ok (kinds x) env0 (.agg (xC x A1 c1 A2 c2).toArray)) (F:kP q) (G:kP r):
  Calls prog 85 #[.agg (xC x A1 c1 A2 c2).toArray,.agg #[s,r,q,z],.func (.func 86) #[] #[.pointer t]] w fun e w'=> ∃(y:Int) (a:Option Addr) (n c:Nat) (env':Env),e=.returned y/\uF (kinds x) env0 w0 ((t,30,[.slice a n c])::L) env' w'/\(y=0->jd (kinds x) env' 8 (.slice a n c) x.days):=by
 obtain⟨K,I,J,S,d⟩:=Ze m D F G ((h.new (fR j) 25 (xC x A1 c1 A2 c2) rfl).new (fR j) 70 [s,r,q,z] (g:=w.heap.size+1) sI);clear m D F h G;go_enter func85,ntmps85;go_wp2_with fail;have H:=TV.ext (fR j) d.st.ext rfl K;refine(OM j d.st.kY (Bc I fun s _=>d.st.ext.ρ s rfl) H J).mono ?_;rintro e w2 ⟨a,n,c,y,M,rfl,k,l⟩;obtain⟨d,o⟩:=Zb (d.step k.step ⟨d.st.ext.trans k.ext,k.kY,d.st.step.vS k.step⟩) l;clear k l H;have f:=zH (d.new (fR j) 30 [.slice a n c] (g:=w2.heap.size) rfl);by_cases N:y=0
 ·have V:(y !=0)=false:=by simp[N]
  have o:=zH (o N);have B:=(f.ig (L1:=[_])).1.c 0;have A:=(f.ig (L1:=[_])).1.c 1;have Y:=(f.ig (L1:=[_])).1.c 2;go_wp2_with fail;refine(Js j (L1:=[_,_,_]) f).mono ?_;rintro e w3 ⟨rfl,h3⟩;have d:=zH h3;clear h3 f A B Y;have B:=(d.ig (L1:=[_])).1.c 0;go_wp2_with fail;refine(Ub s w3).mono ?_;rintro e w4 ⟨st,rfl,rfl⟩;have d:=zH (d.new (fR j) 188 [.int .u64 st] (g:=w3.heap.size) rfl);have Y:=(d.ig (L1:=[_,_])).1.c 1;go_wp2_with fail;obtain⟨g3,v⟩:=nE w3;obtain⟨g2,u⟩:=nE w2;rw[<-v,<-u] at d;rw[<-v,<-u];clear v u B Y;go_loopw [28] (fun W wr=> ∃(i:Nat) (b:Env) (T:Option Addr) (X c':Nat) (Z:Int),(i:Int)<=max r 0/\W=.int .i64 i/\Hid (uF (kinds x) env0 w0 ((g3,188,[.int .u64 Z])::(g2,30,[.slice T X c'])::(w.heap.size+1,70,[s,r,q,z])::(w.heap.size,25,xC x A1 c1 A2 c2)::(t,30,[.slice T X c'])::L) b wr)/\Hid (jd (kinds x) b 8 (.slice T X c') x.days)) (fun W _=>(r-intOf W).toNat)
  case atStart=>exact⟨0,M,a,n,c,st,oG,rfl,d,o⟩
  case round=>
   clear d o;obtain⟨i,b,a,n,c,st,hi,rfl,d,o⟩:=hrel;by_cases af:(i:Int)<r
   ·have ae:(i:Int)+1<=9223372036854775807:=by have:=S.out.2;omega
    have A:=(d.ig (L1:=[_])).1.cell 0;have B:=(d.ig (L1:=[_,_])).1.cell 2;have px:=(d.ig (L1:=[_,_,_])).1.iY;have U:=(d.ig (L1:=[_])).1.frozen 0;simp only[fD,fK,im,Nat.reduceAdd] at A B px;obtain⟨x0,x1,x2,x3,x4,x5,-⟩:=px;go_wp2_with fail;refine(mc j d I K o J).mono ?_;rintro e w5 ⟨a5,n5,c5,aa,e5,rfl,h5,E⟩;obtain⟨p,R⟩:=Zb h5 E;clear h5 E d o A B x0 x1 x2 x3 x4 x5 U;have A:=(p.ig (L1:=[_])).1.c 0;have U:=(p.ig (L1:=[_])).1.frozen 0;have C:=zH (p.put (L1:=[_]) 0 (.slice a5 n5 c5));go_wp2_with fail;refine(Js j (L1:=[_,_,_,_]) C).mono ?_;rintro e w6 ⟨rfl,h6⟩;have d:=zH h6;clear h6 p C A U;go_wp2_with fail;go_roundw
    case rel=>exact⟨i+1,e5,a5,n5,c5,aa,oG,by go_num,d,R⟩
    case measure=>exact mI
   ·go_wp2_with fail;go_ret
    exact⟨0,rfl,a,n,c,b,d.mono (.cons _ (.cons _ (.cons _ (.cons _ (.refl _))))),fun _=>o⟩
 ·have V:(y !=0)=true:=by simp[N]
  go_wp2_with fail;go_ret
  exact⟨y,O,Q,P,M,rfl,f.mono (.cons _ (.cons _ (.cons _ (.refl _)))),fun h=>absurd h N⟩
def Uv (j:ga x) (k:Good (kinds x) env (lk []) w) (D:ln env.ρ GF) (m:xv.ok (kinds x) env (.agg (xC x A1 c1 A2 c2).toArray)) (F:kP q) (G:kP r):
  Calls prog 51 #[.agg (xC x A1 c1 A2 c2).toArray,.agg #[s,r,q,z]] w fun e w'=> ∃(a:Option Addr) (n c:Nat) (y:Int) (env':Env),e=.returned (.tuple #[.agg #[.slice a n c],y])/\oE (kinds x) env w env' w'/\(y=0->jd (kinds x) env' 8 (.slice a n c) x.days):=by
 have h:uF (kinds x) env w [] env w:=⟨oE.refl k,(fun b p=>by cases p),List.nodup_nil⟩;obtain⟨d,K,I,J,S⟩:=Ze ((((h.new (fR j) 25 (xC x A1 c1 A2 c2) rfl).new (fR j) 70 [s,r,q,z] (g:=w.heap.size+1) sI).new (fR j) 30 [()] (g:=w.heap.size+1+1) sI).new (fR j) 30 [()] (g:=w.heap.size+1+1+1) sI) m D F G;clear m D F h G k;go_enter func51,ntmps51;go_wp2_with fail;refine(SL j d I K J S).mono ?_;rintro e w2 ⟨y,a,n,c,M,rfl,i,l⟩;obtain⟨f,o⟩:=Zb i l;clear i l;have A:=(f.ig (L1:=[])).1.c 0;have t:=(f.ig (L1:=[_])).1.c 0;have u:=(f.ig (L1:=[_])).1.frozen 0;go_wp2_with fail;refine bodyPost_ret (iw rfl _ _ (w+1+1) 30 [.slice a n c] _ y rfl rfl ((f.put (L1:=[_]) 0 (.slice a n c)).ig (L1:=[_])).1 underlying30 rfl kR) rfl ⟨a,n,c,y,M,rfl,(f.put (L1:=[_]) 0 (.slice a n c)).st,o⟩
end
end Ra
namespace Ra
open Go.Proofs.Tryz
open Go Go.RowKit jm ko kN
abbrev NO (x:fS) (w:World):Env:=⟨vE x,fun _=>0,fun _=>none,w⟩
theorem Qw (x:fS) (w:World):Good (kinds x) (NO x w) (lk []) w:=
 ⟨fun _ _=>rfl,fun b c T f h=>⟨h,rfl,fun k a=>absurd rfl a⟩,fun b t n h=>absurd (show(none:Option (Nat×Nat))=some (t,n) from h) sI,fun k T xs h=>absurd (show(none:Option (TypeId×List BV))=some (T,xs) from h) sI,fun k d h=>absurd rfl h⟩
theorem g0_ (x:fS):vE x 0=0:=rfl
theorem g1_ (x:fS):vE x 1=x.eB.length:=rfl
theorem g2_ (x:fS):vE x 2=x.days:=rfl
theorem g3_ (x:fS):vE x 3=x.mm:=rfl
theorem g4_ (x:fS):vE x 4=x.cap:=rfl
theorem g5_ (x:fS):vE x 5=x.len:=rfl
section
variable {x:fS} (hx:ga x)
include hx
theorem XX (w:World):ln (NO x w).ρ GF:=by
 have h:=hx.head;intro f a;simp only[fC,iy,or_false] at a
 rcases a with rfl|rfl|rfl|rfl|rfl|rfl|rfl|rfl|rfl|rfl <;>(unfold LC.ok;dsimp only;simp only[g0_,g1_,g2_,g3_,g4_,g5_];omega)
theorem aad {w:World} {v:Value} (h:iz w v x):xv.ok (kinds x) (NO x w) v:=by
 have f:=hx.head;have e:=hx.gn.1;obtain⟨a,b,rfl,c,d⟩:=h;refine⟨[x.days,x.mm,x.cap,x.len,a,b],rfl,⟨?_,?_⟩,⟨?_,?_⟩,⟨?_,?_⟩,⟨?_,?_⟩,⟨⟨?_,?_,.inr ⟨c,?_,?_⟩⟩,?_,?_⟩,⟨⟨?_,?_,.inr ⟨d,?_⟩⟩,?_,?_⟩,trivial⟩ <;>
  first|exact congrArg (Value.int .i64) (fE _).symm|(simp only[E.ev,g0_,g1_,g2_,g3_,g4_,g5_,kP];omega)
omit hx in
theorem Mz {w w':World} {env':Env} (h:oE (kinds x) (NO x w) w env' w'):Below w w w':=
 ⟨h.step.io.os,h.step.io.tape,h.step.io.output,h.step.sz,fun b c=>h.step.keep b c rfl fun k a=>absurd rfl a⟩
end
end Ra
section
open Go Go.RowKit jm ko kN Ra
theorem ND {x:fS} (hx:ga x) {w:World} {v:Value} {s z:Int} (h:iz w v x) (hs:kP s) (hz:kP z):
  Calls Tryz.prog 50 #[v,s,z] w fun e w'=> ∃(u:Value) (y:Int),e=.returned (.tuple #[u,y])/\Below w.heap.size w w':=by
 have hxv:=aad hx h;have hf0:=oE.refl (Qw x w);refine(hf0.call (fR hx) (h50 hx) rfl rfl (put (put (vE x) 6 s) 7 z) (fun s hs=>by have hs:s<6:=hs;rw[fy oG,fy oG]) #[v,s,z] ⟨?_,⟨?_,?_⟩,⟨?_,?_⟩,trivial⟩ (Bc (XX hx w) fun s hs=>by rw[fy oG,fy oG])).mono ?_
 ·refine TV.ext (fR hx) (wz (Ext.refl _ (NO x w)) (np:=6) fun s hs=>?_) rfl hxv;rw[fy oG,fy oG]
 ·show Value.int .i64 s=.int .i64 (put (put (vE x) 6 s) 7 z 6+0);rw[fy dE,ie,fE]
 ·show kP (put (put (vE x) 6 s) 7 z 6+0);rw[fy dE,ie,fE];exact hs
 ·show Value.int .i64 z=.int .i64 (put (put (vE x) 6 s) 7 z 7+0);rw[ie,fE]
 ·show kP (put (put (vE x) 6 s) 7 z 7+0);rw[ie,fE];exact hz
 ·rintro e w' ⟨v,rfl,env',h1,-,-,-,⟨us,rfl,h4⟩,-⟩;obtain⟨z1,us1,rfl,-,h5⟩:=uD.cons h4;obtain⟨z2,us2,rfl,⟨rfl,-⟩,h6⟩:=uD.cons h5;obtain rfl:=uD.nil h6;exact⟨_,_,rfl,Mz h1⟩
end
section
open Go Go.RowKit jm ko kN
variable {p:Addr}
def Oy (w:World) (g:Nat) (cs:Array Value):(w.setRow g cs).heap.size=w.heap.size:=by simp[World.setRow]
def jP.hold {w':World} {v:Value} {p:Pl} (h:jP w v p) (g:w.heap.size<=w') (a: ∀q u,w.cell? q=some u->w'.cell? q=some u):jP w' v p:=by obtain⟨A,c,e,m,k,n⟩:=h;refine⟨A,c,e,m,k,fun x=>?_⟩;obtain⟨b,o,e,l,r⟩:=n x;refine⟨b,o,e,bP l g,fun i d s=>?_⟩;obtain⟨y,C,⟨z,e,f⟩,B⟩:=r i d s;exact⟨y,C,⟨z,e,iK.step f g a⟩,fun j u t=>a _ _ (B j u t)⟩
def blank (G:List Nat) (w:World):World:=G.foldr (fun g w=>w.setRow g #[]) w
def oK (w:World): ∀G:List Nat,(blank G w).heap.size=w
 | []=>rfl
 |g::G=>(Oy _ _ _).trans (oK w G)
def tt (w:World) : ∀{G:List Nat},b∉G->(blank G w).heap[b]? =w.heap[b]?
 | [],_=>rfl
 |g::G,h=>(setRow_other (blank G w) g b #[] fun e=>h (by rw[e];exact .head _)).trans (tt w fun d=>h (.tail _ d))
def pV (h:p.block∉G):(blank G w).cell? p=w.cell? p:=by unfold World.cell?;rw[tt w h]
def jM (G:List Nat) (w:World):Prop:= ∀g∈G,∃t cs,fc w g t cs
def Cr: ∀{G:List Nat},jM G w-> ∀{g:Nat},g∈G-> ∃t,fc (blank G w) g t []
 |a::G,hG,g,h=>by
  have m:jM G w:=fun b l=>hG b (.tail _ l);have c: ∃t cs,fc (blank G w) g t cs:=by
   by_cases d:g∈G
   ·obtain⟨t,k⟩:=Cr m d;exact⟨t,_,k⟩
   ·obtain⟨t,cs,k⟩:=hG g h;exact⟨t,cs,(tt w d).trans k⟩
  obtain⟨t,cs,k⟩:=c;by_cases e:g=a
  ·subst e;exact⟨t,k.setRow []⟩
  ·obtain⟨t,k⟩:=Cr m (List.mem_of_ne_of_mem e h);exact⟨t,(setRow_other (blank G w) a g #[] e).trans k⟩
def su (c:jM G w) {u:Value} (h:(blank G w).cell? p=some u):p.block∉G:=fun d=>by obtain⟨t,k⟩:=Cr c d;unfold fc at k;simp[World.cell?,k] at h
def pD (G:List Nat) (w:World) (v:Value) (p:Pl):Prop:=jP (blank G w) v p
variable {G':List Nat} {p:Pl}
def pD.reads (h:pD G w v p) (c:jM G w):jP w v p:=
 jP.hold h (by rw[oK];exact lE) fun q u f=>by rw[<-pV (su c f)];exact f
def pD.XU (h:pD G w v p) (c:jM G w) (g: ∀b∈G',b∈G):pD G' w v p:=
 jP.hold h (by rw[oK,oK];exact lE) fun q u f=>by have a:=su c f;rw[pV a] at f;rw[pV fun d=>a (g _ d)];exact f
def pD.put (h:pD G w v p) (c:jM G w) {g:Nat} (d:g∈G) (i:Nat) (u:Value):pD G (w.setCell (pA g i) u) v p:=
 jP.hold h (by rw[oK,oK];simp[World.setCell]) fun q y f=>by
  have a:=su c f;have b:q.block≠g:=fun e=>a (by rw[e];exact d);rw[pV a] at f|-
  rw[<-f];unfold World.cell? World.setCell;simp[jc,jN b]
def pD.below (h:pD G w v p) (c:jM G w) (b:Below w w w'):pD G w' v p:=
 jP.hold h (by rw[oK,oK];exact b.size) fun q y f=>by
  have a:=su c f;rw[pV a] at f|-
  exact(mY b none).cell f fun e=>by cases e
def pD.grown (h:pD G w v p) (c:jM G w) (l:b∈G) (d:w.grownBy w' (some b)):pD G w' v p:=
 jP.hold h (by rw[oK,oK];exact d.size) fun q y f=>by
  have a:=su c f;rw[pV a] at f|-
  exact d.cell f fun e=>a (by cases e;exact l)
end
namespace Ra
open Go Go.RowKit jm ko kN
variable {B:jM} {env:Env} {x:fS}
def Fz (r:Good (kinds x) env B w) (m: ∀g∈G,mW env g):Sub env.h (blank G w):=fun b c T f s=>by rw[tt w fun a=>(m b a).2 c T f s];exact(r.hh b c T f s).1
def LP (r:Good (kinds x) env B w) (m: ∀g∈G,mW env g) {u:Value} (h:(PC.tc 5 4000).ok (kinds x) env 0 u): ∃d,RL 1 jf (blank G w) u d/\jS x.eB 4000 d/\ ∀t∈d,t≠[]:=by
 obtain⟨l,⟨-,-,f⟩,-,-⟩:=h
 rcases f with ⟨rfl,-⟩|⟨d,a,-,F,A⟩
 ·exact⟨[],⟨none,0,rfl,lE,by simp[maxLen],fun h=>by simp at h⟩,jS.jL _ _,fun t h=>by cases h⟩
 ·exact⟨d,RL.sub (Fz r m) oG (fun _ _ h=>jf.sub (Fz r m) h) a,F,A⟩
def Ly (r:Good (kinds x) env B w) (m: ∀g∈G,mW env g) {v:Value} (h:pn.ok (kinds x) env v): ∃Q p,v=.agg #[Q]/\pD G w Q p/\(p.length:Int)=env.ρ 2/\ ∀d∈p,jS x.eB 4000 d/\ ∀t∈d,t≠[]:=by
 obtain⟨Y,rfl,h⟩:=h;obtain⟨u,Y,rfl,f,h⟩:=jH.cons h;obtain rfl:=jH.nil h;have f:jd (kinds x) env 8 u (env.ρ 2+0):=f;rw[fE] at f;obtain⟨a,n,c,rfl,hn,M,V,U,I⟩:=id f;have k: ∀i,i<n-> ∃d,∃b o y,a=some ⟨b,o,none⟩/\b<w.heap.size/\(blank G w).cell? (pA b (o+i))=some y/\RL 1 jf (blank G w) y d/\jS x.eB 4000 d/\ ∀t∈d,t≠[]:=fun i S=>by
  obtain⟨b,o,n',c',e,s,-,K⟩:=zk r f (i:=i) oG;cases e;have J:b∉G:=fun e=>by obtain⟨-,z,R,-⟩:=I _ rfl;rw[(m _ e).1] at R;cases R
  obtain⟨y,q,E,W,P⟩:=K 0 (show 0<1 by decide);have O:q=.tc 5 4000:=by have:([PC.tc 5 4000]:List PC)[0]? =some q:=W;cases this;rfl
  subst O;obtain⟨d,F,A,H⟩:=LP r m P;have N:((kinds x).pat 8).length=1:=rfl;rw[N,jR,gv] at E;exact⟨d,b,o,y,rfl,s,by rw[pV J];exact E,F,A,H⟩
 obtain⟨p,D,l⟩:=Gh n k;refine⟨_,p,rfl,⟨a,c,by rw[D],by rw[D];exact M,by rw[qf];exact V,fun T=>?_⟩,oG,fun d C=>?_⟩
 ·obtain⟨d,C⟩:=ec T;obtain⟨b,o,y,rfl,s,-⟩:=l 0 d C;refine⟨b,o,rfl,by rw[oK];exact s,fun i d C=>?_⟩;obtain⟨Z,o',y,e,-,E,X,-⟩:=l i d C;cases e;exact⟨[y],rfl,⟨y,rfl,X⟩,fun j u L=>by
   cases j with
   |zero=>simp at L;subst L;simpa using E
   |succ j=>simp at L⟩
 ·obtain⟨i,S⟩:=gz.1 C;obtain⟨-,-,-,-,-,-,-,A,H⟩:=l i d S;exact⟨A,H⟩
end Ra
section
open Go.Proofs.Tryz
open Go Go.RowKit jm ko kN Ra
structure oJ (x:fS) (G:List Nat) (w:World) (dv:Value) (p:Pl):Prop where
 rd:pD G w dv p
 len:(p.length:Int)=x.days
 dy: ∀d∈p,jS x.eB 4000 d/\ ∀t∈d,t≠[]
def We (x:fS) (i:Sub w0 w):Ra.Good (kinds x) (NO x w0) (lk []) w:=
 ⟨fun _ _=>rfl,fun b c T f h=>⟨i b c T f h,rfl,fun k l=>absurd rfl l⟩,fun b t n h=>absurd (show(none:Option (Nat×Nat))=some (t,n) from h) sI,fun k T xs h=>absurd (show(none:Option (TypeId×List BV))=some (T,xs) from h) sI,fun k a h=>absurd rfl h⟩
def GG {x:fS} (m:ga x) {v:Value} {s r q z:Int} {G:List Nat} (h:iz w0 v x) (i:Sub w0 w) (u: ∀g∈G,(∀c T f,w0.heap[g]? ≠some (.cells c T f))/\g<w.heap.size) (H:kP q) (I:kP r):
  Calls prog 51 #[v,.agg #[s,r,q,z]] w fun e w'=> ∃(a:Option Addr) (n c:Nat) (y:Int),e=.returned (.tuple #[.agg #[.slice a n c],y])/\(y=0-> ∃p,oJ x G w' (.slice a n c) p)/\Below w w w':=by
 have o:=aad m h;obtain⟨A1,c1,A2,c2,rfl⟩:=h.agg;refine(Uv m (We x i) (XX m w0) o H I).mono ?_;rintro e w' ⟨a,n,c,y,env',rfl,d,J⟩;refine⟨a,n,c,y,rfl,fun C=>?_,⟨d.step.io.os,d.step.io.tape,d.step.io.output,d.step.sz,fun b i=>d.step.keep b i rfl fun k l=>absurd rfl l⟩⟩;have t:=d.kY.gl 2 (show 2<6 by decide);have j: ∀g∈G,mW env' g:=fun g A=>d.step.free (u g A).2 ⟨rfl,(u g A).1⟩;obtain⟨B,p,e,D,E,F⟩:=Ly d.kY j (R0 t (J C));obtain rfl:Value.slice a n c=B:=by cases e;rfl
 exact⟨p,D,E.trans t,F⟩
end
section
open Go.Proofs.Tryz
open Go Go.RowKit jm ko kN Ra
variable {x:fS}
section
variable {lb:Nat} {w w':World} (hs:w.heap.size<=w'.heap.size) (hc: ∀q u,lb<=q.block->w.cell? q=some u->w'.cell? q=some u)
include hs hc
theorem gx.Vu {k:IntKind} {l:List Int} (h:gx w k v l) (f:wk lb v):gx w' k v l:=by obtain⟨A,c,rfl,a,q,m,p⟩:=h;refine⟨A,c,rfl,a,q,m,fun e=>?_⟩;obtain⟨b,o,rfl,d,g⟩:=p e;exact⟨b,o,rfl,bP d hs,fun j u r=>hc (pA b (o+j)) u (show lb<=b from f (pA b o) _ _ rfl e) (g j u r)⟩
theorem tU.hold (h:tU lb w v x):tU lb w' v x:=by
 obtain⟨z,B,rfl,⟨A,c,rfl,m,n,p⟩,⟨j,c',rfl,q,s,t⟩⟩:=h;refine⟨_,_,rfl,⟨A,c,rfl,m,n,fun e=>?_⟩,⟨j,c',rfl,q,s,fun e=>?_⟩⟩
 ·obtain⟨b,o,rfl,a,d,h⟩:=p e;refine⟨b,o,rfl,a,bP d hs,fun i x l=>?_⟩;obtain⟨u,g,f,c0,c1,c2,c3,c4,c5,c6,c7⟩:=h i x l;exact⟨u,gx.Vu hs hc g f,f,hc _ _ a c0,hc _ _ a c1,hc _ _ a c2,hc _ _ a c3,hc _ _ a c4,hc _ _ a c5,hc _ _ a c6,hc _ _ a c7⟩
 ·obtain⟨b,o,rfl,a,d,h⟩:=t e;refine⟨b,o,rfl,a,bP d hs,fun i r k=>?_⟩;obtain⟨y,g,f,c0⟩:=h i r k;exact⟨y,gx.Vu hs hc g f,f,hc _ _ a c0⟩
end
theorem iz.toF {w:World} (h:iz w v x):tU 0 w v x:=by
 obtain⟨z,B,rfl,⟨A,c,rfl,m,n,p⟩,⟨j,c',rfl,q,s,t⟩⟩:=h;refine⟨_,_,rfl,⟨A,c,rfl,m,n,fun e=>?_⟩,⟨j,c',rfl,q,s,fun e=>?_⟩⟩
 ·obtain⟨b,o,rfl,d,h⟩:=p e;refine⟨b,o,rfl,eC _,d,fun i x l=>?_⟩;obtain⟨u,g,h⟩:=h i x l;exact⟨u,g,fun _ _ _ _ _=>eC _,h⟩
 ·obtain⟨b,o,rfl,d,h⟩:=t e;refine⟨b,o,rfl,eC _,d,fun i r k=>?_⟩;obtain⟨y,g,h⟩:=h i r k;exact⟨y,g,fun _ _ _ _ _=>eC _,h⟩
def PX (n:Nat) (w:World) (v:Value) (x:fS):Prop:= ∃h,iz h v x/\(∀b,b<n-> ∀c T f,h.heap[b]? ≠some (.cells c T f))/\Sub h w/\h.heap.size<=w
section
variable {x:fS}
theorem PX.reads (h:PX n w v x):iz w v x:=by obtain⟨k,a,-,m,p⟩:=h;exact(tU.hold p (fun q u _ j=>m.cell j) a.toF).plain
theorem PX.below (h:PX n w v x) (d:Below w w w'):PX n w' v x:=by obtain⟨k,a,q,m,p⟩:=h;exact⟨k,a,q,fun b c T f j=>by have g:=m b c T f j;rw[d.block b (aah.1 g).1];exact g,eZ p d.size⟩
theorem PX.alloc (h:PX n w v x) (o:Obj):PX n (w.alloc o) v x:=h.below (bF.alloc lE o)
theorem PX.put (h:PX n w v x) {g:Nat} (l:g<n) (i:Nat) (u:Value):PX n (w.setCell (pA g i) u) v x:=by obtain⟨k,a,q,m,p⟩:=h;exact⟨k,a,q,fun b c T f j=>by rw[heap_setCell_other w (pA g i) b u fun e=>q b (by have d:b=g:=e;omega) c T f j];exact m b c T f j,by simpa[World.setCell] using p⟩
theorem PX.of (h:tU n w v x):PX n w v x:=by
 have a: ∀b:Nat,({w with heap:=w.heap.mapIdx fun i o=>if i<n then Obj.pending #[] 0 else o}:World).heap[b]? =(w.heap[b]?).map fun o=>if b<n then Obj.pending #[] 0 else o:=fun b=>by simp
 refine⟨{w with heap:=w.heap.mapIdx fun i o=>if i<n then Obj.pending #[] 0 else o},(tU.hold (lb:=n) sI (fun q u j r=>?_) h).plain,fun b d c T f e=>?_,fun b c T f d=>?_,by simp⟩
 ·unfold World.cell? at r|-
  rw[a,show(fun o=>if q.block<n then Obj.pending #[] 0 else o)=id by funext o;rw[if_neg oG];rfl,Option.map_id];exact r
 ·rw[a] at e;cases j:w.heap[b]? with
  |none=>rw[j] at e;cases e
  |some o=>rw[j,lL,if_pos d] at e;cases e
 ·rw[a] at d;cases j:w.heap[b]? with
  |none=>rw[j] at d;cases d
  |some o=>
   rw[j,lL] at d;split at d
   ·cases d
   ·exact d
theorem PX.search {s r q z:Int} {x:fS} (l:ga x) (h:PX n w v x) {G:List Nat} (d:Below w w w') (i: ∀b∈G,b<w'.heap.size/\(b<n\/w.heap.size<=b)) (j:kP q) (k:kP r):
  Calls prog 51 #[v,.agg #[s,r,q,z]] w' fun e g=> ∃(a:Option Addr) (n c:Nat) (y:Int),e=.returned (.tuple #[.agg #[.slice a n c],y])/\(y=0-> ∃p,oJ x G g (.slice a n c) p)/\Below w' w' g:=by
 obtain⟨A,o,t,u,B⟩:=h;refine GG l o (u.trans fun b c T f j=>?_) (fun b m=>⟨fun c T f e=>?_,(i b m).1⟩) j k
 ·rw[d.block b (aah.1 j).1];exact j
 ·rcases (i b m).2 with hn|hw
  ·exact t b hn c T f e
  ·have:=(aah.1 e).1;omega
end
end
section
open Go.Proofs.Tryz
open Go.RowKit jm ko Et kN
variable {x:fS}
def Pp (f:ga x) (s d:Int) (t:Ra.kP d) (w:World):Calls prog 195 #[.int .u64 s,d] w fun e w'=> ∃j:Int,e=.returned (.int .u64 j)/\Below w w w':=by
 refine((Ra.oE.refl (Ra.Qw x w)).call (Ra.fR f) (Ra.abd f) rfl rfl (Ra.put (Ra.vE x) 6 d) (fun s a=>Ra.fy a) #[.int .u64 s,d] ⟨⟨s,rfl⟩,⟨?_,?_⟩,trivial⟩ (Ra.fF _)).mono ?_
 ·show Value.int .i64 d=.int .i64 (Ra.put (Ra.vE x) 6 d 6+0);rw[Ra.ie,fE]
 ·show Ra.kP (Ra.put (Ra.vE x) 6 d 6+0);rw[Ra.ie,fE];exact t
 ·rintro e w' ⟨v,rfl,env',p,-,-,-,⟨n,rfl⟩,-⟩;exact⟨n,rfl,Ra.Mz p⟩
def Ue (f:ga x) (v:Value) (l:List Int) (w:World) (n:gx w .i64 v l) (B: ∀z∈l,Ra.kP z):Calls prog 182 #[v] w fun e w'=> ∃j:Int,e=.returned (.int .u64 j)/\Below w w w':=by
 obtain⟨A,c,rfl,p,E,r⟩:=n.open_;obtain⟨C,q⟩:=Zb r B;clear n r B;go_enter func182,ntmps182;go_wp2_with fail;go_loopw [3,8] (fun D m wr=> ∃(i:Nat) (s:Int),i<=l/\m=.int .i64 i/\D=.int .u64 s/\Below w w wr) (fun _ m _=>l.length-(intOf m).toNat)
 case atStart=>exact⟨0,0,eC _,rfl,rfl,bS _ _⟩
 case round=>
  obtain⟨i,s,B,rfl,rfl,h⟩:=hrel;by_cases d:i<l
  ·obtain⟨z,k⟩: ∃z,l[i]? =some z:=⟨_,fp d⟩;obtain⟨b,o,rfl,H,y⟩:=C i z k;replace y:=a7 h lE y;have t:=zH (q z (a8 k));clear k;go_wp2_with fail;refine(Pp f s z t wr).mono ?_;rintro e F ⟨u,rfl,a⟩;have g:=h.trans (a.mono h.size);clear a;go_wp2_with fail;go_roundw
   case rel=>exact⟨i+1,u,oG,by go_num,rfl,g⟩
   case measure=>exact mI
  ·go_wp2_with fail;go_ret
   exact⟨s,rfl,h⟩
def Qj (v:Value) (p:Pl) (l:Int) (w:World) (Z:Vk w v p) (P:(nn p).length<=1000000):
  Calls prog 183 #[v,l] w fun e w'=> ∃u,e=.returned u/\gx w' .i64 u ((pY (sU l p)).map Prod.fst)/\Below w w w':=by
 obtain⟨dv,rfl,t⟩:=Z;have U:=zH t;obtain⟨A,c,rfl,-⟩:=jP.open_ t;have N:=zH P;clear t P;have j:=bL (bS w w) (cB 30 [.slice A p c]);go_enter func183,ntmps183;go_wp2_with fail;refine(vT _ p l _ ⟨_,rfl,jP.below U j lE⟩ N).mono ?_;rintro e w1 ⟨u,rfl,Q,n⟩;have M:=AU Q;obtain⟨V,y⟩:=nR (pY (sU l p));have ae:V.length<=1000000:=by rw[<-y];exact eZ (Ce l (nn p)) N
 rw[y] at M;have E:=zH y;obtain⟨A1,c1,rfl,g1,g2,r⟩:=fQ.open_ M;have C:=zH r;have h:=j.trans (n.mono sI);clear Q M r y n j;go_wp2_with fail;go_loopw [5,12] (fun u m wr=> ∃i:Nat,i<=V/\m=.int .i64 i/\Hid (OI w1 wr u ((V.map Prod.fst).take i))/\Below w1 w1 wr) (fun _ m _=>V.length-(intOf m).toNat)
 case atStart=>exact⟨0,eC _,rfl,(OI.jL _ _),bS _ _⟩
 case round=>
  obtain⟨i,B,rfl,f,a⟩:=hrel;by_cases d:i<V
  ·obtain⟨⟨z,q⟩,k⟩:=ec d;obtain⟨b,o,rfl,H,R,S⟩:=C i _ k;replace R:=a7 a lE R;replace S:=a7 a lE S;have O:Hid ((V.map Prod.fst).take (i+1)=(V.map Prod.fst).take i++[z]):=zH (iC (by rw[fh,k];rfl));obtain⟨L,F⟩:=nR ((V.map Prod.fst).take i);rw[F] at f O;have J:L.length<=1000000000:=by rw[<-F,fB,fm];omega
   have aa:=a.size;clear k F;obtain⟨T,W,rfl,-⟩:=f.slice;have f:=zH (f.alloc (cB 86 [z,q]));go_wp2_with (at_builtin;refine qu _ rfl (.tmp 16) (.tmp 19) rfl w1 _ L f rfl z rfl sI J sO ?_;intro g cap w5 K X Y I af);have G:=(bL a (cB 86 [z,q])).trans (I.below sO);go_roundw
   case rel=>exact⟨i+1,d,by go_num,zH (by rw[O.out];exact K),G⟩
   case measure=>exact mI
  ·obtain rfl:i=V.length:=oG;have x:=f.out;rw[fj sI] at x;have D:=zH x;have s:=x.slice;rw[fm] at s;obtain⟨T,W,rfl,-⟩:=s;clear x f;go_wp2_with fail;go_ret;exact⟨_,rfl,by rw[E.out];exact D.reads,h.trans (a.mono h.size)⟩
end
section
open Go.Proofs.Tryz
open Go.RowKit jm ko Et kN
def KI (v:Value) (L:List Nat) (s:Int) (w:World) (a:lu w v L):Calls prog 225 #[v,.int .u64 s] w fun e w'=> ∃z:Int,e=.returned z/\w'=w:=by
 obtain⟨A,c,rfl,g,j,D⟩:=lu.open_ a;have X:=zH D;clear a D;go_enter func225,ntmps225;go_wp2_with fail;go_loopw [8] (fun F wr=> ∃i:Nat,i<=L/\F=.int .i64 i/\wr=w) (fun F _=>L.length-(intOf F).toNat)
 case atStart=>exact⟨0,eC _,rfl,rfl⟩
 case round=>
  obtain⟨i,hi,rfl,rfl⟩:=hrel;by_cases u:i<L
  ·obtain⟨z,B⟩:=ec u;obtain⟨b,o,rfl,N,y⟩:=X i z B;clear B;by_cases f:s=z
   ·have d:(s==(z:Int))=true:=by simp[f]
    go_wp2_with fail;go_ret
    exact⟨_,rfl,rfl⟩
   ·have d:(s==(z:Int))=false:=by simp[f]
    go_wp2_with fail;go_roundw
    case rel=>exact⟨i+1,oG,by go_num,by first|rfl|trivial⟩
    case measure=>exact mI
  ·go_wp2_with fail;go_ret
   exact⟨_,rfl,rfl⟩
def D7 (v:Value) (L:List Nat) (s:Int) (w:World) (a:lu w v L):Calls prog 184 #[v,.int .u64 s] w (ug w):=by have C:=zH a;obtain⟨A,c,rfl,-⟩:=lu.open_ a;clear a;go_enter func184,ntmps184;go_wp2_with fail;refine(KI _ L s w C).mono ?_;rintro e b ⟨z,rfl,rfl⟩;go_wp2_with fail;go_ret;exact⟨_,rfl,bS _ _⟩
def DF {x:Nat×vg}: ∀{p:Pl} {k:Nat},x∈iZ k p->x.1<k+p.length
 | [],k,h=>by simp[iZ] at h
 |d::p,k,h=>by
  simp only[iZ,fO] at h
  rcases h with h|h
  ·unfold iP at h;obtain⟨t,b,h⟩:=qR.1 h;unfold ku at h;obtain⟨s,a,rfl⟩:=fq.1 h;simp
  ·have:=DF h;simp only[ff];omega
def UP {n:Nat} {w:World} {Q:Value} {p:Pl} (h:tj n w Q p) (a:Int): ∀x∈pY (sU a p),Ra.kP x.1:=by intro x P;unfold pY sU mn at P;obtain⟨y,hy,rfl⟩:=fq.1 P;obtain⟨z,B,rfl⟩:=fq.1 hy;have g:=DF (mC.1 B).1;have j:=h.len;unfold Ra.kP;dsimp only;omega
def Gp {x:fS} (P:ga x) (A1:Option Addr) (c1:Nat) (A2:Option Addr) (c2:Nat) (Q:Value) (p:Pl) (k:Nat) (w:World) (h:tj x.eB w Q p) (hk:k<x.eB) (hr:iz w (.agg (xC x A1 c1 A2 c2).toArray) x):
  Calls prog 138 #[.agg (vC x A1 c1 A2 c2 Q (k:Int)).toArray] w (yy w):=by
 have hh:=P.head;obtain⟨a,O⟩:=ec hk;obtain⟨cv,ai,e,af,-⟩:=id hr;obtain rfl:Value.slice A1 x.eB c1=cv:=by cases e;rfl
 obtain⟨A,c,R,-,-,D⟩:=af;cases R;obtain⟨b,o,rfl,N,g⟩:=D oG;obtain⟨pv,hp,T,U,y2,y3,y4,y5,y6,y7⟩:=g k a O;obtain⟨Ap,cp,rfl,-⟩:=lu.open_ hp;obtain⟨HP,C⟩:=Zb hp h;obtain⟨Ad,cd,rfl,-⟩:=jP.open_ h.rd;clear h hr e D g hp O;go_enter func138,ntmps138;go_wp2_with fail;obtain⟨W,hW⟩:=nR ((w.alloc (cB 144 (vC x (pA b o) c1 A2 c2 (.slice Ad p cd) (k:Int)))).alloc (cB 47 [a.kind,a.iL,.slice Ap a.jC cp,a.jU,a.size,a.start,a.lR,a.hold]));have m:Below w w W:=by rw[<-hW];exact bL (bL bF _) _
 have bV:fc W w 144 (vC x (pA b o) c1 A2 c2 (.slice Ad p.length cd) (k:Int)):=by rw[<-hW];exact(fc.new _ _ _).alloc _
 have bC:fc W (w+1) 47 [a.kind,a.iL,.slice Ap a.jC.length cp,a.jU,a.size,a.start,a.lR,a.hold]:=by rw[<-hW];exact fc.fW _ _ _ sI
 rw[hW];clear hW T U y2 y3 y4 y5 y6 y7;refine(vT _ p (k:Int) W ⟨_,rfl,jP.below C.rd m lE⟩ C.Ik).mono ?_;rintro e w1 ⟨lv,rfl,ho,n⟩;have hv:=AU ho;obtain⟨V,I⟩:=nR (pY (sU (k:Int) p));have aj:V.length<=1000000:=by rw[<-I];exact eZ (Ce k (nn p)) C.Ik
 have l:Hid (∀z∈V.map Prod.fst,Ra.kP z):=zH (by rw[<-I];intro z B;obtain⟨y,hy,rfl⟩:=fq.1 B;exact UP C k y hy);have Z:=zH I;rw[I] at hv;obtain⟨A1,ah,rfl,g1,g2,D⟩:=fQ.open_ hv;have X:=zH D;have hb:=m.trans (n.mono m.size);have H:=bV.below n bV.lt;have G:=bC.below n bC.lt;clear ho hv D I n m bV bC;go_wp2_with fail;go_loopw [20] (fun F wr=> ∃i:Nat,i<=V/\F=.int .i64 i/\Below w1 w1 wr) (fun F _=>V.length-(intOf F).toNat)
 case atStart=>exact⟨0,eC _,rfl,bS _ _⟩
 case round=>
  obtain⟨i,hi,rfl,f⟩:=hrel;have v:=H.below f H.lt;have d:=G.below f G.lt;have e1:=d.c 1;have R:=d.c 2;have v6:=v.c 6;have v7:=v.c 7;have r:=hb.trans (f.mono hb.size);have l1:=v.lt;have l2:=d.lt;by_cases u:i<V
  ·obtain⟨⟨z,q⟩,B⟩:=ec u;obtain⟨b,o,rfl,N,T,U⟩:=X i _ B;replace T:=a7 f lE T;replace U:=a7 f lE U;clear B;by_cases S:q=a.iL
   ·have ag:(q !=a.iL)=false:=by simp[S]
    clear S;go_wp2_with fail;go_roundw
    case rel=>exact⟨i+1,u,by go_num,bL f _⟩
    case measure=>exact mI
   ·have ag:(q !=a.iL)=true:=by simp[S]
    clear S;go_wp2_with fail;go_ret;exact⟨_,rfl,bL r _⟩
  ·go_wp2_with fail;refine(Qj _ p (k:Int) wr ⟨_,rfl,jP.below C.rd r lE⟩ C.Ik).mono ?_;rintro e w4 ⟨lv,rfl,j,t⟩;rw[Z.out] at j;obtain⟨L,hL⟩:=nR (V.map Prod.fst);rw[hL] at j;have l:=l;rw[hL] at l;clear hL;obtain⟨A4,c4,rfl,-⟩:=j.open_;have Y:=zH j;have J:=r.trans (t.mono r.size);have aa:=(d.below t d.lt).cell 2;clear j e1 R v6 v7;go_wp2_with fail;refine(Ue P _ _ w4 Y l).mono ?_;rintro e w6 ⟨s,rfl,K⟩;have E:=J.trans (K.mono J.size);have R:=((d.below t d.lt).below K (bP d.lt t.size)).c 2;clear aa;go_wp2_with fail;refine(D7 _ a.jC s w6 (lu.below HP E lE)).mono ?_;rintro e w8 ⟨bb,rfl,ae⟩;have M:=E.trans (ae.mono E.size);cases bb
   ·go_wp2_with fail;go_ret
    exact⟨_,rfl,M⟩
   ·go_wp2_with fail;go_ret
    exact⟨_,rfl,M⟩
def L8 {x:fS} (J:ga x) (A1:Option Addr) (c1:Nat) (A2:Option Addr) (c2:Nat) (E:Value) (p:Pl) (k:Nat) (f:kc) (w:World) (h:tj x.eB w E p) (r:x.eB[k]? =some f) (I:iz w (.agg (xC x A1 c1 A2 c2).toArray) x) (q:f.kind=2):
  Calls prog 139 #[.agg (vC x A1 c1 A2 c2 E (k:Int)).toArray] w fun e w'=> ∃z:Int,e=.returned z/\(z=0->pX f.jU f.size f.start (Qd x p k)=0)/\Below w w w':=by
 have hh:=J.head;have n:=zX J (a8 r) q;have af:=(bX.1 r).1;obtain⟨Z,aa,e,y,-⟩:=id I;obtain rfl:Value.slice A1 x.eB c1=Z:=by cases e;rfl
 obtain⟨A,c,e2,-,-,G⟩:=y;cases e2;obtain⟨b,o,rfl,v,g⟩:=G oG;obtain⟨pv,H,M,N,O,P,Q,R,S,T⟩:=g k f r;obtain⟨U,Y,rfl,-⟩:=lu.open_ H;have s:=zH h;obtain⟨B,D,rfl,-⟩:=jP.open_ h.rd;have i:=zH n;clear h I e G g H r n q;go_enter func139,ntmps139;go_wp2_with fail;obtain⟨W,hW⟩:=nR (w.alloc (cB 144 (vC x (pA b o) c1 A2 c2 (.slice B p D) (k:Int))));have a:Below w w W:=by rw[<-hW];exact bL bF _
 have C:fc W w 144 (vC x (pA b o) c1 A2 c2 (.slice B p.length D) (k:Int)):=by rw[<-hW];exact fc.new _ _ _
 rw[hW];clear hW;have d:=C.iY;simp only[im,Nat.reduceAdd] at d;obtain⟨d0,d1,d2,d3,d4,d5,d6,d7,-⟩:=d;replace M:=a7 a lE M;replace N:=a7 a lE N;replace O:=a7 a lE O;replace P:=a7 a lE P;replace Q:=a7 a lE Q;replace R:=a7 a lE R;replace S:=a7 a lE S;replace T:=a7 a lE T;have F:b<W.heap.size:=bP v a.size;have ae:=C.lt;refine rB [] fun hS=>?_;refine kL [0,1,2,3,4,5,6,7] ?_;refine tO 8 fun K t=>?_;go_simp;refine(Bx x _ c1 A2 c2 _ p (k:Int) _ ⟨jP.below s.rd (a.trans (hS.mono a.size)) lE,s.len,s.dy⟩ hh.1).mono ?_;rintro e w2 ⟨lv,rfl,j,l⟩;obtain⟨Al,cl,rfl,-⟩:=j.open_;have V:=zH j;have hS:=hS.trans (l.mono hS.size);clear j l;refine t _ _ (hS) ?_;refine tO 9 fun K t=>?_;go_simp;refine(LR f.kind f.iL (U) f.jC.length Y f.jU f.size f.start f.lR f.hold _ _ _ (V.below bF lE) (by rw[lB];omega) i.1 i.2.1 i.2.2).mono ?_;rintro e w3 ⟨z,rfl,L,m⟩;have hS:=hS.trans (m.mono hS.size);have X:=zH L;clear L m;have u:=a.trans (hS.mono a.size);refine t _ _ (hS) ?_;refine kL [10] ?_;refine tD ?_;go_wp2_with fail;go_ret;exact⟨z,rfl,X,u⟩
end
section
open Go.Proofs.Tryz
open Go.RowKit jm ko Et kN
variable {a:Nat} {c:Array MapEntry} {x:fS}
def C6 (z:Value):Option (Nat×Value)->Value
 |some x=>.tuple #[x.2,true]
 |none=>.tuple #[z,false]
section
variable {P:Program} {t k e:TypeId}
def IK {v:Value} (h:P.underlying t=some (.map k e)) (j:P.underlying k=some (.int .i64)) (g:w.heap[b]? =some (.map c a))
  (l:Instr.findNow (.int .i64) s c.toList 0=some none):
  ∃w',(Instr.mapUpdate t (.map (some b)) s v).run P w=.ok () w'/\w'.heap[b]? =some (.map (c.push ⟨.int .i64 s,v,a⟩) (a+1))/\w'.heap.size=w/\ ∀lb,lb<=b->Below lb w w':=by
 refine⟨{w with heap:=w.heap.setIfInBounds b (.map (c.push ⟨.int .i64 s,v,a⟩) (a+1))},?_,?_,by simp,fun lb m=>⟨rfl,rfl,rfl,by simp,fun i n=>?_⟩⟩
 ·have d:(Instr.checkKey false 10000 k s).run P w=.ok () w:=mu j (show MapKept.IsKey (.int .i64) s from rfl) false 9999;have f:(Instr.findKey k s c.toList).run P w=.ok none w:=jY j l;simp[Instr.mapUpdate,run_underlying h,iI g,d,f,mV _ g,Result.andThen]
 ·have:=(aah.1 g).1;simp[this]
 ·rw[iQ oG]
def Fc {r:Option (Nat×Value)} {z:Value} (h:P.underlying t=some (.map k e)) (j:P.underlying k=some (.int .i64)) (g:w.heap[b]? =some (.map c a))
  (l:Instr.findNow (.int .i64) s c.toList 0=some r) (I:(zeroValue e).run P w=.ok z w):
  (Instr.lookup t (.map (some b)) s true).run P w=.ok (C6 z r) w:=by
 have d:(Instr.checkKey c.isEmpty 10000 k s).run P w=.ok () w:=mu j (show MapKept.IsKey (.int .i64) s from rfl) _ 9999;have f:(Instr.findKey k s c.toList).run P w=.ok r w:=jY j l;cases r with
 |none=>simp[Instr.lookup,run_underlying h,iI g,d,f,I,Result.andThen,C6]
 |some x=>simp[Instr.lookup,run_underlying h,iI g,d,f,Result.andThen,C6]
end
def DU (w:World):(zeroValue 198).run prog w=.ok .nilFunc w:=kR
def NI (q:ga x) {c:kc} (H:c∈x.eB):c.kind=1\/c.kind=2:=by
 have h:=q.Kp H;unfold jT at h;by_cases d:c.kind=1
 ·exact .inl d
 ·by_cases f:c.kind=2
  ·exact .inr f
  ·rw[if_neg d,if_neg f] at h;cases h
def F2 (q:ga x) (A1:Option Addr) (c1:Nat) (A2:Option Addr) (c2:Nat) (Z:Value) (p:Pl) (k:Nat) (l:kc) (w:World) (h:tj x.eB w Z p) (j:x.eB[k]? =some l) (S:iz w (.agg (xC x A1 c1 A2 c2).toArray) x):
  Calls prog 88 #[.agg (xC x A1 c1 A2 c2).toArray,.agg #[Z],(k:Int)] w fun e w'=> ∃z:Int,e=.returned z/\(l.kind=2->z=0->pX l.jU l.size l.start (Qd x p k)=0)/\Below w w w':=by
 have hh:=q.head;have Q:=NI q (a8 j);have R:=(bX.1 j).1;obtain⟨cv,aa,e,O,-⟩:=id S;obtain rfl:Value.slice A1 x.eB c1=cv:=by cases e;rfl
 obtain⟨A,c,e2,-,-,H⟩:=O;cases e2;obtain⟨b,o,rfl,ae,g⟩:=H oG;obtain⟨pv,hp,T,y1,y2,y3,y4,y5,y6,y7⟩:=g k l j;obtain⟨n,V,HK⟩:=Zc h S j;obtain⟨U,X,rfl,-⟩:=jP.open_ h.rd;obtain⟨W,hW⟩:=nR ((w.alloc (cB 25 (xC x (pA b o) c1 A2 c2))).alloc (cB 30 [.slice U p X]));have L:Below w w W:=by rw[<-hW];exact bL (bL bF _) _
 have G:fc W w 25 (xC x (pA b o) c1 A2 c2):=by rw[<-hW];exact(fc.new _ _ _).alloc _
 have J:fc W (w+1) 30 [.slice U p.length X]:=by rw[<-hW];exact fc.fW _ _ _ sI
 have K:W.heap.size=w.heap.size+2:=by rw[<-hW];simp
 have ai:= @run_makeMap prog;have N:(W.alloc (.map #[] 0)).heap[W.heap.size]? =some (.map #[] 0):=by simp only[World.alloc,Vd]
 obtain⟨w1,B,M,aj,D⟩:=IK (P:=prog) (v:=.func (.func 138) #[] #[]) (s:=1) underlying199 underlying3 N rfl;obtain⟨t,C,y,ak,E⟩:=IK (P:=prog) (v:=.func (.func 139) #[] #[]) (s:=2) underlying199 underlying3 M (by rfl);clear h S e H g hp j y1 y2 y3 y4 y5 y6 y7;go_enter func88,ntmps88;have a:Below w w t:=L.trans ((((bS W W).alloc lE (.map #[] 0)).trans (D _ lE)).trans (E _ lE)|>.mono oG);have u:Below W W t:=(((bS W W).alloc lE (.map #[] 0)).trans (D _ lE)).trans (E _ lE);have d:=G.iY;simp only[im,Nat.reduceAdd] at d;obtain⟨d0,d1,d2,d3,d4,d5,-⟩:=d;have Y:=(G.below u G.lt).iY;simp only[im,Nat.reduceAdd] at Y;obtain⟨f0,f1,f2,f3,f4,f5,-⟩:=Y;have p0:=(J.below u J.lt).c 0;have F:=a7 a lE T;have l1:=G.lt;have l2:=J.lt;have af:decide ((k:Int)<0)=false:=decide_eq_false oG;have ag:decide (x.eB.length<=k)=false:=decide_eq_false oG;have ah:(k:Int)<x.eB.length:=oG;clear K
 rcases Q with hk3|hk3
 ·rw[hk3] at T F;have i:=Fc (P:=prog) (s:=1) (z:=.nilFunc) (r:=some (0,.func (.func 138) #[] #[])) underlying199 underlying3 y (by rfl) (DU t);simp only[C6] at i;go_wp2_with fail;refine(Gp q _ c1 A2 c2 _ p k t ⟨jP.below n.rd a lE,n.len,n.dy⟩ R (iz.below V a lE)).mono ?_;rintro e w3 ⟨z,rfl,f⟩;have m:=a.trans (f.mono a.size);clear f i B C;go_wp2_with fail;go_ret;exact⟨z,rfl,fun h=>oG,m⟩
 ·rw[hk3] at T F;have i:=Fc (P:=prog) (s:=2) (z:=.nilFunc) (r:=some (1,.func (.func 139) #[] #[])) underlying199 underlying3 y (by rfl) (DU t);simp only[C6] at i;go_wp2_with fail;refine(L8 q _ c1 A2 c2 _ p k l t ⟨jP.below n.rd a lE,n.len,n.dy⟩ HK (iz.below V a lE) hk3).mono ?_;rintro e w3 ⟨z,rfl,I,f⟩;have m:=a.trans (f.mono a.size);have HZ:=zH I;clear f i B C I;go_wp2_with fail;go_ret;exact⟨z,rfl,fun _=>HZ,m⟩
end
section
open Go.Proofs.Tryz
open Go.RowKit jm ko Et kN
structure PO (x:fS) (p:Pl):Prop where
 len:(p.length:Int)=x.days
 Sq: ∀(k:Nat) (cu:kc),x.eB[k]? =some cu->cu.kind=2->pX cu.jU cu.size cu.start (Qd x p k)=0
def RY {x:fS} (X:ga x) (v dv:Value) (p:Pl) (w:World) (h:tj x.eB w dv p) (hr:iz w v x):
  Calls prog 52 #[v,.agg #[dv]] w fun e w'=> ∃z:Int,e=.returned z/\(z=0->PO x p)/\Below w w w':=by
 have hh:=X.head;obtain⟨A1,c1,A2,c2,rfl⟩:=hr.agg;obtain⟨V,HR⟩:=Zb h hr;obtain⟨P,R,rfl,g1,g2,S⟩:=jP.open_ h.rd;have HC:=zH S;have ag:=h.len;have B:=bL (bL (bS w w) (cB 25 (xC x A1 c1 A2 c2))) (cB 30 [.slice P p R]);have f:=(fc.new w 25 (xC x A1 c1 A2 c2)).alloc (cB 30 [.slice P p R]);have l:=fc.fW (w.alloc (cB 25 (xC x A1 c1 A2 c2))) 30 [.slice P p R] (g:=w.heap.size+1) sI;clear h hr S;go_enter func52,ntmps52;go_wp2_with fail;refine(MR _ x _ (iz.below HR B lE) X.wf oG).mono ?_;rintro e w1 ⟨rfl,s⟩;have j:=B.trans (s.mono sO);replace f:=f.below s sO;replace l:=l.below s sI;obtain⟨E,hE⟩:=nR (Od x);rw[hE];clear hE B s;obtain⟨H,I,J,K,L,M⟩:=f.jI;have p0:=l.c 0;by_cases A:E=0
 ·have ae:(E !=0)=false:=by simp[A]
  by_cases t:(p.length:Int)=x.days
  ·have af:((p.length:Int) !=x.days)=false:=by simp[t]
   have Z:=zH t;clear t A;go_wp2_with fail;go_loopw [22] (fun G wr=> ∃i:Nat,i<=p/\G=.int .i64 i/\fc wr w 25 (xC x A1 c1 A2 c2)/\fc wr (w+1) 30 [.slice P p R]/\Below w w wr) (fun G _=>p.length-(intOf G).toNat)
   case atStart=>exact⟨0,eC _,rfl,f,l,j⟩
   case round=>
    clear f l j H I J K L M p0;obtain⟨i,hi,rfl,f,l,j⟩:=hrel;obtain⟨H,I,J,K,L,M⟩:=f.jI;have l1:=f.lt;have l2:=l.lt;by_cases q:i<p
    ·obtain⟨N,C⟩:=ec q;obtain⟨b,o,rfl,ah,tv,D,y0⟩:=HC i N C;obtain⟨Y,ct,rfl,-⟩:=iK.open_ D;replace y0:=a7 j lE y0;obtain⟨W,HD⟩:=Zb D (V.dy N (a8 C));clear C D;have m:=bL j (cB 39 [.slice Y N ct]);go_wp2_with fail;refine(zY _ _ x N 4000 _ (iz.below HR m lE) X (iK.below W m lE) HD oG).mono ?_;rintro e w3 ⟨z,rfl,-,a⟩;have n:=m.trans (a.mono m.size);have y:=(f.alloc (cB 39 [.slice Y N ct])).below a sO;have u:=(l.alloc (cB 39 [.slice Y N ct])).below a sO;clear a m H I J K L M y0;by_cases r:z=0
     ·have F:(z !=0)=false:=by simp[r]
      clear r;go_wp2_with fail;go_roundw
      case rel=>exact⟨i+1,q,by go_num,y,u,n⟩
      case measure=>exact mI
     ·have F:(z !=0)=true:=by simp[r]
      go_wp2_with fail;go_ret
      exact⟨z,rfl,fun h=>absurd h r,n⟩
    ·obtain rfl:i=p.length:=oG;go_wp2_with fail;go_loopw [36] (fun G wr=> ∃i:Nat,i<=x.eB/\G=.int .i64 i/\Hid (∀(k:Nat) (d:kc),k<i->x.eB[k]? =some d->d.kind=2->pX d.jU d.size d.start (Qd x p k)=0)/\fc wr w 25 (xC x A1 c1 A2 c2)/\fc wr (w+1) 30 [.slice P p R]/\Below w w wr) (fun G _=>x.eB.length-(intOf G).toNat)
     case atStart=>exact⟨0,eC _,rfl,fun k d h=>oG,f,l,j⟩
     case round=>
      clear f l j H I J K L M;obtain⟨i,hi,rfl,W,f,l,j⟩:=hrel;obtain⟨H,I,J,K,L,M⟩:=f.jI;have p0:=l.c 0;have l1:=f.lt;have l2:=l.lt;by_cases q:i<x.eB
      ·obtain⟨d,T⟩:=ec q;have Q:=zH T;clear T;go_wp2_with fail;refine(F2 X A1 c1 A2 c2 _ p i d wr ⟨jP.below V.rd j lE,V.len,V.dy⟩ Q (iz.below HR j lE)).mono ?_;rintro e w3 ⟨z,rfl,U,a⟩;have n:=j.trans (a.mono j.size);have y:=f.below a l1;have u:=l.below a l2;have HZ:=zH U;clear a H I J K L M p0 U;by_cases r:z=0
       ·have F:(z !=0)=false:=by simp[r]
        have aa:Hid (∀(k:Nat) (d:kc),k<i+1->x.eB[k]? =some d->d.kind=2->pX d.jU d.size d.start (Qd x p k)=0):=zH fun k c O S h2=>by
         rcases Nat.lt_succ_iff_lt_or_eq.1 O with O|rfl
         ·exact W k c O S h2
         ·have:=Q.out;rw[S] at this;cases this;exact HZ.out h2 r
        clear r;go_wp2_with fail;go_roundw
        case rel=>exact⟨i+1,q,by go_num,aa,y,u,n⟩
        case measure=>exact mI
       ·have F:(z !=0)=true:=by simp[r]
        go_wp2_with fail;go_ret
        exact⟨z,rfl,fun h=>absurd h r,n⟩
      ·go_wp2_with fail;go_ret
       exact⟨0,rfl,fun _=>⟨Z,fun k d O=>W k d (by have:=(bX.1 O).1;omega) O⟩,j⟩
  ·have af:((p.length:Int) !=x.days)=true:=by simp[t]
   go_wp2_with fail;go_ret
   exact⟨1,rfl,fun h=>oG,j⟩
 ·have ae:(E !=0)=true:=by simp[A]
  go_wp2_with fail;go_ret
  exact⟨3,rfl,fun h=>oG,j⟩
end
end Go.Proofs.YtgimnjldndkalaaGreatDoor
