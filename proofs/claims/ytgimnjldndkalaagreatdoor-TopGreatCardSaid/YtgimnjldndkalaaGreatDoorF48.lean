/- Of the proof of TopGreat: A plan that lies apart from a block: it is read where that block is emptied. -/
import Derived.Test.YtgimnjldndkalaaGreatDoorF47
import Derived.Test.YtgimnjldndkalaaGreatDoorF30
import Derived.Test.YtgimnjldndkalaaGreatDoorF31
set_option linter.all false
set_option maxHeartbeats 2000000
set_option maxRecDepth 100000
namespace Go.Proofs.YtgimnjldndkalaaGreatDoor
variable {G:List Nat} {b g n:Nat} {O:Nat->Prop} {v:Value} {W w w':World}
section
open Go Go.RowKit jm ko kN
variable {p:Addr}
def Oy (w:World) (g:Nat) (c:Array Value):(w.setRow g c).heap.size=w.heap.size:=by simp[World.setRow]
def jP.hold {w':World} {v:Value} {p:Pl} (h:jP w v p) (g:w.heap.size<=w') (a: ∀q u,w.cell? q=some u->w'.cell? q=some u):jP w' v p:=by obtain⟨A,c,e,m,k,n⟩:=h;refine⟨A,c,e,m,k,fun x=>?_⟩;obtain⟨b,o,e,l,r⟩:=n x;refine⟨b,o,e,bP l g,fun i d s=>?_⟩;obtain⟨y,C,⟨z,e,f⟩,B⟩:=r i d s;exact⟨y,C,⟨z,e,iK.step f g a⟩,fun j u t=>a _ _ (B j u t)⟩
def blank (G:List Nat) (w:World):World:=G.foldr (fun g w=>w.setRow g #[]) w
def oK (w:World): ∀G:List Nat,(blank G w).heap.size=w
 | []=>rfl
 |g::G=>(Oy _ _ _).trans (oK w G)
def tt (w:World) : ∀{G:List Nat},b∉G->(blank G w).heap[b]? =w.heap[b]?
 | [],_=>rfl
 |g::G,h=>(setRow_other (blank G w) g b #[] fun e=>h (by rw[e];exact .head _)).trans (tt w fun d=>h (.tail _ d))
def pV (h:p.block∉G):(blank G w).cell? p=w.cell? p:=by unfold World.cell?;rw[tt w h]
def jM (G:List Nat) (w:World):Prop:= ∀g∈G,∃t c,fc w g t c
def Cr: ∀{G:List Nat},jM G w-> ∀{g:Nat},g∈G-> ∃t,fc (blank G w) g t []
 |a::G,hG,g,h=>by
  have m:jM G w:=fun b l=>hG b (.tail _ l);have f: ∃t c,fc (blank G w) g t c:=by
   by_cases d:g∈G
   ·obtain⟨t,k⟩:=Cr m d;exact⟨t,_,k⟩
   ·obtain⟨t,c,k⟩:=hG g h;exact⟨t,c,(tt w d).trans k⟩
  obtain⟨t,c,k⟩:=f;by_cases e:g=a
  ·subst e;exact⟨t,k.setRow []⟩
  ·obtain⟨t,k⟩:=Cr m (List.mem_of_ne_of_mem e h);exact⟨t,(setRow_other (blank G w) a g #[] e).trans k⟩
def su (c:jM G w) {u:Value} (h:(blank G w).cell? p=some u):p.block∉G:=fun d=>by obtain⟨t,k⟩:=Cr c d;unfold fc at k;simp[World.cell?,k] at h
def pD (G:List Nat) (w:World) (v:Value) (p:Pl):Prop:=jP (blank G w) v p
variable {G':List Nat} {p:Pl}
def pD.reads (h:pD G w v p) (c:jM G w):jP w v p:=
 jP.hold h (by rw[oK];exact lE) fun q u f=>by rw[<-pV (su c f)];exact f
def pD.XU (h:pD G w v p) (c:jM G w) (g: ∀b∈G',b∈G):pD G' w v p:=
 jP.hold h (by rw[oK,oK];exact lE) fun q u f=>by have a:=su c f;rw[pV a] at f;rw[pV fun d=>a (g _ d)];exact f
def pD.put (h:pD G w v p) (c:jM G w) {g:Nat} (d:g∈G) (i:Nat) (u:Value):pD G (w.setCell (pA g i) u) v p:=
 jP.hold h (by rw[oK,oK];simp[World.setCell]) fun q y f=>by
  have a:=su c f;have b:q.block≠g:=fun e=>a (by rw[e];exact d);rw[pV a] at f|-
  rw[<-f];unfold World.cell? World.setCell;simp[jc,jN b]
def pD.below (h:pD G w v p) (c:jM G w) (b:Below w w w'):pD G w' v p:=
 jP.hold h (by rw[oK,oK];exact b.size) fun q y f=>by
  have a:=su c f;rw[pV a] at f|-
  exact(mY b none).cell f fun e=>by cases e
def pD.grown (h:pD G w v p) (c:jM G w) (l:b∈G) (d:w.grownBy w' (some b)):pD G w' v p:=
 jP.hold h (by rw[oK,oK];exact d.size) fun q y f=>by
  have a:=su c f;rw[pV a] at f|-
  exact d.cell f fun e=>a (by cases e;exact l)
end
section
open Go Go.RowKit jm ko kN
variable {x:fS}
def Sub (h e:World):Prop:= ∀(b:Nat) c T f,h.heap[b]? =some (.cells c T f)->e.heap[b]? =some (.cells c T f)
theorem Sub.cell {h e:World} (hs:Sub h e) {a:Addr} (hc:h.cell? a=some v):e.cell? a=some v:=by
 unfold World.cell? at hc|-
 cases d:h.heap[a.block]? with
 |none=>rw[d] at hc;cases hc
 |some o=>
  rw[d] at hc;cases o with
  |cells c T f=>rw[hs _ _ _ _ d];exact hc
  |_=>cases hc
section
variable {lb:Nat} {w w':World} (hs:w.heap.size<=w'.heap.size) (hc: ∀q u,lb<=q.block->w.cell? q=some u->w'.cell? q=some u)
include hs hc
theorem gx.Vu {k:IntKind} {l:List Int} (h:gx w k v l) (f:wk lb v):gx w' k v l:=by obtain⟨A,c,rfl,m,q,p,r⟩:=h;refine⟨A,c,rfl,m,q,p,fun e=>?_⟩;obtain⟨b,o,rfl,d,g⟩:=r e;exact⟨b,o,rfl,bP d hs,fun j u s=>hc (pA b (o+j)) u (show lb<=b from f (pA b o) _ _ rfl e) (g j u s)⟩
theorem tU.hold (h:tU lb w v x):tU lb w' v x:=by
 obtain⟨z,dv,rfl,⟨A,c,rfl,k,l,m⟩,⟨j,c',rfl,n,p,q⟩⟩:=h;refine⟨_,_,rfl,⟨A,c,rfl,k,l,fun e=>?_⟩,⟨j,c',rfl,n,p,fun e=>?_⟩⟩
 ·obtain⟨b,o,rfl,a,d,h⟩:=m e;refine⟨b,o,rfl,a,bP d hs,fun i x t=>?_⟩;obtain⟨u,g,f,c0,c1,c2,c3,c4,c5,c6,c7⟩:=h i x t;exact⟨u,gx.Vu hs hc g f,f,hc _ _ a c0,hc _ _ a c1,hc _ _ a c2,hc _ _ a c3,hc _ _ a c4,hc _ _ a c5,hc _ _ a c6,hc _ _ a c7⟩
 ·obtain⟨b,o,rfl,a,d,h⟩:=q e;refine⟨b,o,rfl,a,bP d hs,fun i r s=>?_⟩;obtain⟨y,g,f,c0⟩:=h i r s;exact⟨y,gx.Vu hs hc g f,f,hc _ _ a c0⟩
end
theorem iz.toF {w:World} (h:iz w v x):tU 0 w v x:=by
 obtain⟨z,dv,rfl,⟨A,c,rfl,k,l,m⟩,⟨j,c',rfl,n,p,q⟩⟩:=h;refine⟨_,_,rfl,⟨A,c,rfl,k,l,fun e=>?_⟩,⟨j,c',rfl,n,p,fun e=>?_⟩⟩
 ·obtain⟨b,o,rfl,d,h⟩:=m e;refine⟨b,o,rfl,eC _,d,fun i x t=>?_⟩;obtain⟨u,g,h⟩:=h i x t;exact⟨u,g,fun _ _ _ _ _=>eC _,h⟩
 ·obtain⟨b,o,rfl,d,h⟩:=q e;refine⟨b,o,rfl,eC _,d,fun i r s=>?_⟩;obtain⟨y,g,h⟩:=h i r s;exact⟨y,g,fun _ _ _ _ _=>eC _,h⟩
def PX (n:Nat) (w:World) (v:Value) (x:fS):Prop:= ∃h,iz h v x/\(∀b,b<n-> ∀c T f,h.heap[b]? ≠some (.cells c T f))/\Sub h w/\h.heap.size<=w
section
variable {x:fS}
theorem PX.reads (h:PX n w v x):iz w v x:=by obtain⟨j,m,-,p,r⟩:=h;exact(tU.hold r (fun q u _ a=>p.cell a) m.toF).plain
theorem PX.below (h:PX n w v x) (d:Below w w w'):PX n w' v x:=by obtain⟨j,m,q,p,r⟩:=h;exact⟨j,m,q,fun b c T f a=>by have g:=p b c T f a;rw[d.block b (aah.1 g).1];exact g,eZ r d.size⟩
theorem PX.alloc (h:PX n w v x) (o:Obj):PX n (w.alloc o) v x:=h.below (bF.alloc lE o)
theorem PX.put (h:PX n w v x) {g:Nat} (k:g<n) (i:Nat) (u:Value):PX n (w.setCell (pA g i) u) v x:=by obtain⟨j,m,q,p,r⟩:=h;exact⟨j,m,q,fun b c T f a=>by rw[heap_setCell_other w (pA g i) b u fun e=>q b (by have d:b=g:=e;omega) c T f a];exact p b c T f a,by simpa[World.setCell] using r⟩
theorem PX.of (h:tU n w v x):PX n w v x:=by
 have g: ∀b:Nat,({w with heap:=w.heap.mapIdx fun i o=>if i<n then Obj.pending #[] 0 else o}:World).heap[b]? =(w.heap[b]?).map fun o=>if b<n then Obj.pending #[] 0 else o:=fun b=>by simp
 refine⟨{w with heap:=w.heap.mapIdx fun i o=>if i<n then Obj.pending #[] 0 else o},(tU.hold (lb:=n) sI (fun q u a s=>?_) h).plain,fun b d c T f e=>?_,fun b c T f d=>?_,by simp⟩
 ·unfold World.cell? at s|-
  rw[g,show(fun o=>if q.block<n then Obj.pending #[] 0 else o)=id by funext o;rw[if_neg oG];rfl,Option.map_id];exact s
 ·rw[g] at e;cases a:w.heap[b]? with
  |none=>rw[a] at e;cases e
  |some o=>rw[a,lL,if_pos d] at e;cases e
 ·rw[g] at d;cases a:w.heap[b]? with
  |none=>rw[a] at d;cases d
  |some o=>
   rw[a,lL] at d;split at d
   ·cases d
   ·exact d
end
structure oJ (x:fS) (G:List Nat) (w:World) (dv:Value) (p:Pl):Prop where
 rd:pD G w dv p
 len:(p.length:Int)=x.days
 dy: ∀d∈p,jS x.eB 4000 d/\ ∀t∈d,t≠[]
end
section
open Go.Proofs.Tryz
open Go.RowKit Go.Shelf jm ko kN J8
theorem Rm{p:Prop}(h:p:=by gi_wp2;refine⟨⟨j+1,oG,(D.kj (p:=pA (W+1) 4) dO _),(o.gH 4 _),(m.out.set (g:=W.heap.size+1) L.out (by have:=m.out.bl.size;omega) (by rw[r.out];exact .inr ⟨oG,oG⟩) oG 4 _),(fun b a=>(fX _ _ _ _ _ (by have:=K.out.lt b a;omega)).trans (B.out b a))⟩,?_⟩;rw[yE (s.cell 4),yE ((o.gH 4 ((j:Int)+1:)).cell 4)];omega):p:=h
attribute [local go_sem] iO
variable {J:Jt} {c:World} {f:Nat}
def MA (w:World) (g i:Nat):Nat:=match w.cell? (pA g i) with
 |some (.int _ z)=>z.toNat
 |_=>0
def yE {i:Nat} {z:Int} {k:IntKind} (h:w.cell? (pA g i)=some (.int k z)):MA w g i=z.toNat:=by unfold MA;rw[h]
abbrev qo (k a b i j:Int):List Value:=[k,a,b,i,j]
def VI (d:Dy):Vi:=fun _ _ _ x=> ∃(k i j:Int) (a b:Nat),x= #[.agg (qo k a b i j).toArray]/\a<d/\b<d/\LK d k a b i j
structure yv (n0:Nat) (w0:World) (J:Jt) (O:Nat->Prop) (W w:World):Prop where
 j: ∃s,J s O w
 bl:Below n0 w0 w
 lt: ∀k,O k->k<w.heap.size
 sz:W.heap.size<=w
def yv.step {O':Nat->Prop} (h:yv f c J O W w) (M:Ms J) (e:gI O w w') (hn:f<=w) (a:Below f w w') (d: ∀k,O' k->(O k\/w.heap.size<=k)/\k<w'.heap.size):yv f c J O' W w':=by obtain⟨s,hj⟩:=h.j;exact⟨⟨s,M s O O' w w' hj e d⟩,h.bl.trans a,fun k b=>(d k b).2,eZ h.sz a.size⟩
def yv.below (h:yv f c J O W w) (M:Ms J) (hn:f<=w) (a:Below w w w'):yv f c J O W w':=
 h.step M (gI.ke a) hn (a.mono hn) fun k b=>⟨.inl b,bP (h.lt k b) a.size⟩
def yv.set (h:yv f c J O W w) (M:Ms J) (hn:f<=w) (d:O g) (a:f<=g) (i:Nat) (u:Value):yv f c J O W (w.setCell (pA g i) u):=
 h.step M (gI.set w d i u) hn ((bS _ w).setCell (p:=pA g i) a u) fun k b=>⟨.inl b,by simpa using h.lt k b⟩
def I6 (f:Nat) (c:World) (dv:Value) (d:Dy) (hd:RL 1 jf c dv d) (w: ∀t∈d,t.length<=1000000) (aK:f=c) (n l:Nat) (hn:1<=n) (J:Jt) (M:Ms J) (hY:Kg prog l f (VI d) J) (O:Nat->Prop) (W:World) (h0:yv f c J O c W)
  (k:Int) (u v:Nat) (ay:u<d) (az:v<d):
  CallsIn Fence.wide n prog 326 #[.agg #[dv],.agg (qo k u v 0 0).toArray,.func (.yield l) #[] #[]] W
   fun e W'=>e=.returned true/\ ∃O',(∀b,O b->O' b)/\yv f c J O' c W'/\ ∀b,O b->W'.heap[b]? =W.heap[b]? :=by
 obtain⟨Ad,U,rfl,aV,aW,X⟩:=iK.open_ hd;obtain⟨ta,aa⟩:=ec ay;obtain⟨tb,ae⟩:=ec az;obtain⟨x,I,rfl,aG,bH,P,ya⟩:=X u ta aa;obtain⟨b2,o2,e2,-,bI,Q,yb⟩:=X v tb ae;cases e2;obtain⟨Aa,ca,rfl,aS,aT,-⟩:=fQ.open_ P;obtain⟨Ab,cb,rfl,G,aU,-⟩:=fQ.open_ Q;have aX:=w ta (a8 aa);have aY:=w tb (a8 ae);have au:f<=W.heap.size:=by have:=h0.bl.size;omega
 have aR:x<W.heap.size:=oG;have YA:Hid (c.cell? (pA x (I+u))=some (.slice Aa ta ca)):=zH ya;have YB:Hid (c.cell? (pA x (I+v))=some (.slice Ab tb cb)):=zH yb;obtain⟨HD,HL,L,HY,K,al⟩:=Zf hd w M hY h0 aK;clear hd w M hY h0 X P Q aa ae ya yb aG;obtain⟨A,aq⟩: ∃A:Nat->Prop,A=fun b=>O b\/W.heap.size<=b/\b<W.heap.size+2:=⟨_,rfl⟩;have r:=zH aq;have HI:Hid (∀w',Below W W w'->W.heap.size+2<=w'->yv f c J A c w'):=zH fun w' a h2=>K.step L (gI.ke a) au (a.mono au) fun b aw=>by
  rw[r.out] at aw
  rcases aw with h|h
  ·exact⟨.inl h,by have:=K.out.lt b h;omega⟩
  ·exact⟨.inr h.1,oG⟩
 clear aq;refine callsIn_of_wp func326 rfl trivial ?_ rfl;simp only[ntmps326,gU,ff,fZ,Nat.reduceAdd,Nat.reduceSub,iq,ir,iX,iA,gQ,fY];gi_wp2;have bD:=(fc.new W 39 [.slice (pA x I) d U]).alloc (cB 320 (qo k u v 0 0));have bM:=fc.fW (W.alloc (cB 39 [.slice (pA x I) d U])) 320 (qo k u v 0 0) (g:=W.heap.size+1) sI;have G:=bL (bL (bS W W) (cB 39 [.slice (pA x I) d U])) (cB 320 (qo k u v 0 0));have aB:W.heap.size+2<=((W.alloc (cB 39 [.slice (pA x I) d U])).alloc (cB 320 (qo k u v 0 0))).heap.size:=sI;gi_loopw [] (fun wr=> ∃(i:Nat) (j:Int),i<=ta.length+1/\fc wr W 39 [.slice (pA x I) d U]/\fc wr (W+1) 320 (qo k u v i j)/\Hid (yv f c J A c wr)/\Hid (∀b,O b->wr.heap[b]? =W.heap[b]?)) (fun wr=>ta.length+1-MA wr (W+1) 3)
 case atStart=>exact⟨0,0,eC _,bD,bM,(HI _ G aB),(fun b a=>G.block b (K.lt b a))⟩
 case round=>
  obtain⟨i,j,hi,T,z,ah,ak⟩:=hrel;clear bD bM G aB;have lD:=T.lt;have lM:=z.lt;have aP:=a7 ah.out.bl (by have:=al.out;omega) YA.out;have aI:x<wr.heap.size:=oG;obtain⟨m0,m1,m2,m3,m4,-⟩:=z.iY;have e0:=T.c 0
  gi_upto_region 2 with fail
  refine wpIn_wide.2 ?_;refine rB [] fun hS=>?_;refine kL [0,1,2,3,4,5,6,7,8,9,10] ?_;refine pU ?_;refine qi kR ?_;unfold oB;clear hS;have ag:=zH (ah.below L oG (bS _ wr).drew);have mF:=z.drew.frozen 4;have aO:wr.drew.cell? (pA (W+1) 4)=some j:=m4;by_cases aZ:i<=ta
  ·gi_wp2;have an:=T.drew.kj (p:=pA (W+1) 4) dO Zo;have ao:=z.drew.gH 4 Zo;have af:=zH (ag.set (g:=W.heap.size+1) L (by show f<=wr;omega) (by rw[r.out];exact .inr ⟨by omega,by omega⟩) oG 4 Zo);have ai:Hid (∀b,O b->(wr.drew.setCell (pA (W+1) 4) Zo).heap[b]? =W.heap[b]?):=zH (fun b a=>(fX _ _ _ _ _ (by have:=K.out.lt b a;omega)).trans (ak.out b a));obtain⟨wo,aL⟩:=nE (wr:World);subst aL;gi_loopw [] (fun wr=> ∃(j:Nat),j<=tb.length+1/\fc wr W 39 [.slice (pA x I) d U]/\fc wr (W+1) 320 (qo k u v i j)/\Hid (yv f c J A c wr)/\Hid (∀b,O b->wr.heap[b]? =W.heap[b]?)) (fun wr=>tb.length+1-MA wr (W+1) 4)
   case atStart=>exact⟨0,eC _,an,ao,af,ai⟩
   case round=>
    obtain⟨j,hj,C,s,y,aj⟩:=hrel;clear an ao af ai m0 m1 m2 m3 m4 e0 aP mF aO;have aM:=C.lt;have aN:=s.lt;have hq:=y.bl.size;have hN:=al.out;have aQ:=a7 y.bl oG YB;obtain⟨m0,m1,m2,m3,m4,-⟩:=s.iY;have e0:=C.c 0;have aI:x<wr.heap.size:=oG
    gi_upto_region 5 with fail
    refine wpIn_wide.2 ?_;refine rB [] fun hS=>?_;refine kL [0,1,2,3,4,5,6,7,8,9,10] ?_;refine pU ?_;refine qi kR ?_;unfold oB;clear hS;by_cases bh:j<=tb
    ·gi_upto_region 7 with fail
     gi_cut [9] from 42 (fun ov wc=> ∃ok:Bool,ov=.bool ok/\Hid (ok=true->LK d k u v i j)/\Below wr wr wc)
     case first=>
      refine wpIn_wide.2 ?_;go_wp2_with fail;refine(xU _ d k u v i j _ (iK.below HD (y.bl.drew) oG) HL).mono ?_;rintro e R ⟨r1,r2,ok,rfl,hr,aA,aH⟩;have S:=zH aA.1;clear aA;have N:=(bS _ wr).drew.trans (aH.mono (by show wr.heap.size<=wr;omega));obtain⟨R1,E⟩:=nR (kJ r1);obtain⟨R2,F⟩:=nR (kJ r2);have n1:=lC r1;have n2:=lC r2;have a1:=oU r1;have a2:=oU r2;rw[E,hr.o1.1] at n1;rw[F,hr.o2.1] at n2;rw[E] at a1;rw[F] at a2;rw[E,F];have I1:=zH (show(prog.info? 355).map (·.size)=some R1.length by rw[n1];exact gZ);have I2:=zH (show(prog.info? 355).map (·.size)=some R2.length by rw[n2];exact gZ);obtain⟨N1,N2,aC,aD⟩:=Zd n1 n2 a1 a2;clear n1 n2 a1 a2 E F hr;go_wp2_with (first
       |(refine fH _ rfl 355 (.tmp 7) (.tmp 46) rfl R 355 gO R1 ((fc.fW R 355 gO (g:=R.heap.size) rfl).alloc _) rfl rfl I1 N1.symm aC ?_;intro w3 b3 Y bB)
       |(refine fH _ rfl 355 (.tmp 8) (.tmp 47) rfl (R+1) 355 gO R2 ((fc.fW (R.alloc (cB 355 gO)) 355 gO (g:=R.heap.size+1) sI).grown Y sI) rfl rfl I2 N2.symm aD ?_;intro w4 b4 aJ bG))
      gi_meet;exact⟨ok,rfl,S,N.trans ((((bL (bL (bS R R) (cB 355 gO)) (cB 355 gO)).grown Y sO (fun q hq=>by cases hq;omega)).grown aJ (by have:=Y.size;simp at this;omega) (fun q hq=>by cases hq;omega)).mono N.size)⟩
     case rest=>
      obtain⟨ok,rfl,S,H⟩:=hcut;have D:=C.below H aM;have o:=s.below H aN;have m:=zH (y.below L oG H);have B:Hid (∀b,O b->wc.heap[b]? =W.heap[b]?):=zH (fun b a=>(H.block b (by have:=K.out.lt b a;omega)).trans (aj.out b a));clear m0 m1 m2 m3 m4 e0 aQ;obtain⟨m0,m1,m2,m3,m4,-⟩:=o.iY;have mF:=o.frozen 4;cases ok
      ·gi_upto_region 8 with fail
       refine wpIn_wide.2 ?_;go_wp2_with fail;exact Rm
      ·have bA:=m.bl.size;obtain⟨s1,ax⟩:=m.j;obtain⟨fn,tmps,assign,body,hy,hR⟩:=HY (n-1) s1 A #[.agg (qo k u v i j).toArray] wc ax ⟨k,i,j,u,v,rfl,ay,az,S rfl⟩;clear ax;gi_wp2;refine hR.mono ?_;rintro e W7 ⟨rfl,aE,V,Z⟩;have aF:A W.heap.size:=by rw[r.out];exact .inr ⟨oG,oG⟩
       have ar:A (W+1):=by rw[r.out];exact .inr ⟨oG,oG⟩
       replace D:fc W7 W 39 [.slice (pA x I) d U]:=(Z _ aF).trans D;replace o:fc W7 (W+1) 320 (qo k u v i j):=(Z _ ar).trans o;replace B:Hid (∀b,O b->W7.heap[b]? =W.heap[b]?):=zH (fun b a=>(Z b (by rw[r.out];exact .inl a)).trans (B b a));replace m:Hid (yv f c J A c W7):=zH ⟨⟨_,aE⟩,m.bl.trans V,fun q hq=>by have h1:=m.lt q hq;exact bP h1 V.size,eZ m.sz V.size⟩;clear m0 m1 m2 m3 m4 mF;obtain⟨m0,m1,m2,m3,m4,-⟩:=o.iY;have mF:=o.frozen 4;exact Rm
    ·have mF:=s.frozen 3;gi_wp2;refine⟨⟨i+1,j,oG,(C.kj (p:=pA (W+1) 3) dO _).drew,(s.gH 3 _).drew,((y.out.set (g:=W.heap.size+1) L.out oG (by rw[r.out];exact .inr ⟨oG,oG⟩) oG 3 _).below L.out sO bF.drew),(fun b a=>(fX _ _ _ _ _ (by have:=K.out.lt b a;omega)).trans (aj.out b a))⟩,?_⟩;rw[yE (z.cell 3),yE ((s.gH 3 ((i:Int)+1:)).drew.cell 3)];omega
  ·gi_wp2;refine bodyPost_ret (results_tmp rfl _ _ _) rfl ?_;exact⟨rfl,A,fun b a=>by rw[r.out];exact .inl a,ag,ak⟩
end
section
open Go.Proofs.Tryz
open Go.RowKit Go.Shelf jm ko kN J8
attribute [local go_sem] iO
structure VW (n0 db:Nat) (w0:World) (dv:Value) (O:Nat->Prop) (W:World):Prop where
 bl:Below n0 w0 W
 lt: ∀k,O k->k<W.heap.size
 d:fc W db 39 [dv]
 o:O db
def F6 (o f:Nat) (g:World) (dv:Value) (d:Dy) (S:RL 1 jf g dv d) (p: ∀t∈d,t.length<=1000000) (U:o=g):
  zO prog 324 #[.pointer f] o (VI d) (VW o f g dv):=by
 intro n l J O W hn c hJ hY h0;obtain⟨I,K,rfl,ae,af,-⟩:=iK.open_ S;obtain⟨HD,HL,X,HY,M⟩:=Ze S p hJ hY U;have R:o<=W.heap.size:=by have:=c.bl.size;omega
 have V:Hid (yv o g J O g W):=zH ⟨⟨0,h0⟩,c.bl,c.lt,by have:=c.bl.size;omega⟩;have P:=c.d;have hO:=zH c.o;have lD:=P.lt;clear S p hJ hY h0 c;refine callsIn_of_wp func324 rfl trivial ?_ rfl;simp only[ntmps324,gU,ff,fZ,Nat.reduceAdd,Nat.reduceSub,iq,ir,iX,iA,gQ,fY];gi_wp2;refine⟨trivial,callsIn_wide.2 ((Bi _).mono ?_)⟩;rintro e w1 ⟨rfl,F⟩;generalize Value.agg _=kv;have z:=P.below F lD;have x:=zH (V.below X R F);gi_wp2;gi_loopw [7] (fun j wr=> ∃(i:Nat) (h:Nat->Prop),i<=4/\j=.int .i64 i/\Hid (yv o g J h g wr)/\Hid (h f)/\fc wr f 39 [.slice I d K]) (fun j _=>4-(intOf j).toNat)
 case atStart=>exact⟨0,O,oG,rfl,x,hO,z⟩
 case round=>
  obtain⟨i,h,hi,rfl,q,D,u⟩:=hrel;clear V x P z hO lD;have A:=u.c 0;by_cases T:i<4
  ·have aa:decide ((i:Int)<4)=true:=by simp;omega
   gi_wp2;gi_loopw [13] (fun j wr=> ∃(a:Nat) (h:Nat->Prop),a<=d/\j=.int .i64 a/\Hid (yv o g J h g wr)/\Hid (h f)/\fc wr f 39 [.slice I d K]) (fun j _=>d.length-(intOf j).toNat)
   case atStart=>exact⟨0,h,oG,rfl,q,D,u⟩
   case round=>
    obtain⟨a,Y,ha,rfl,r,v,k⟩:=hrel;clear q D u A;have A:=k.c 0;by_cases G:a<d
    ·gi_wp2;gi_loopw [19] (fun j wr=> ∃(b:Nat) (h:Nat->Prop),b<=d/\j=.int .i64 b/\Hid (yv o g J h g wr)/\Hid (h f)/\fc wr f 39 [.slice I d K]) (fun j _=>d.length-(intOf j).toNat)
     case atStart=>exact⟨0,Y,oG,rfl,r,v,k⟩
     case round=>
      obtain⟨b,Z,hb,rfl,y,w,m⟩:=hrel;clear r v k A;have A:=m.c 0;by_cases H:b<d
      ·gi_wp2;refine⟨trivial,callsIn_wide.2 (callsIn_wide.1 (CallsIn.mono (I6 o g _ d HD HL M 1 l lE J X HY Z wr y i a b G H) ?_))⟩;rintro e w5 ⟨rfl,O5,E,B,C⟩;have Q:fc w5 f 39 [.slice I d K]:=(C f w).trans m;have L:=zH B;have N:Hid (O5 f):=zH (E f w);clear B C E m A;gi_wp2;exact⟨⟨b+1,O5,H,rfl,L,N,Q⟩,by simp[intOf];omega⟩
      ·gi_wp2;exact⟨⟨a+1,Z,G,rfl,y,w,m⟩,by simp[intOf];omega⟩
    ·gi_wp2;exact⟨⟨i+1,Y,T,rfl,r,v,k⟩,by simp[intOf];omega⟩
  ·gi_wp2;refine bodyPost_end (results_none rfl _ _ _) rfl ?_;obtain⟨s,hj⟩:=q.j;exact⟨⟨_,rfl⟩,s,h,hj⟩
end
section
open Go.Proofs.Tryz
open Go.RowKit Go.Shelf jm ko kN P15
theorem Rp{p:Prop}(h:p:=by
 refine G _ _ (⟨a7 a lE R,a7 a lE n2⟩) ?_;refine tO 4 fun K G=>?_;refine qj W4 _ _ rfl (w+4) _ L (H.below a lE) rfl C rfl bV oG oG ?_;intro g cap w5 T an ao B;have X:=B.ig (I.below a lN) dE;have J:=B.ig (g2.below a l2) dE;have c25:=J.c 0;have bH:=J.frozen 0;refine G _ _ (⟨X.cell 0,X.cell 2⟩) ?_;have aB:=Ny T an ao;have ay:fc w5 (w+1+1+1) 3 [r]:=(B.block _ oG (.inl oG)).trans (g3.below a l3);have aa:=ay.kj (p:=pB (w+1+1)) dO (.slice g (L+1) cap);have Y:=X.kj (p:=pB (w+1+1)) dO (.slice g (L+1) cap);refine tO 7 fun K G=>?_;go_simp;refine G _ _ (⟨Y.cell 0,Y.cell 2⟩) ?_;have c36:=aa.c 0;have bI:=aa.frozen 0;refine tO 8 fun K G=>?_;go_simp;have Z:=Y.kj (p:=pB (w+1+1+1)) dO t';refine G _ _ (⟨Z.cell 0,Z.cell 2⟩) ?_;refine tD ?_;gi_wp2_with fail;gi_meet;have el:(L++[C]).length=L.length+1:=sI;have al:ju wB w O V ((w5.setCell (pB (w+1+1)) (.slice g (L+1) cap)).setCell (pB (w+1+1+1)) t'):=(ju.below a oG ag).trans ((ju.grown ao oG (fun k f=>by have:=ag k f;omega) (fun q hq=>⟨by have:=(H.cells q hq).1;omega,af q hq,(OI.cells (H.below a lE) q hq).2⟩)).trans ((ju.set w5 _ _ oG (fun h=>by have:=E _ h;omega)).trans (ju.set _ _ _ oG (fun h=>by have:=E _ h;omega))));refine⟨some ⟨g,0,none⟩,cap,L++[C],t',?_,zH ?_,(fun b hb aj=>?_),aa.gH 0 _,Z,oG,oG,by simp,al,al.bl.size⟩
 ·rw[el];exact(J.gH 0 _).kj (p:=pB (w+1+1+1)) dO _
 ·rw[el];exact jo (jo T dO _) dO _
 ·obtain rfl:g=b:=fg hb
  rcases aB with h|h
  ·exact af _ h aj
  ·have:=ag _ aj;omega):p:=h
attribute [local go_sem] iO
variable {B R lb:Nat} {b:World} {l:List Int}
def rR.own {size:Nat} {e:TypeId} {b:List Value}:rR B (fun W=>W.ownsRow lb e size v n b):=fun A C row h F a=>sM h fun g hb=>by
 rcases h.2 with ⟨E,-⟩|⟨g2,c2,S,E,h2,N,-⟩
 ·rw[E] at hb;cases hb
 ·rw[E] at hb;cases hb;refine F.block _ (aah.1 N).1 fun e=>?_;obtain⟨-,o,ho,hc⟩:=a _ e.symm;rw[N] at ho;cases ho;cases hc
def DY (w:World):Jt:=fun s O W=>
 (∀k,O k->w.heap.size+4<=k)/\Below w w W/\ ∃(cv:Value) (L:List Int) (r:Int),fc W (w+1+1) 26 [cv]/\OI (w+4) W cv L/\(∀g,cv.ownBlock=some g-> ¬O g)/\
  fc W (w+1+1+1) 3 [r]/\L.length<=s/\L.length<=4001/\(r≠ -1->L≠[])
section
def DY.bk (b:w.heap.size<=B) (s:Nat) (O:Nat->Prop):rR B (DY w s O):=fun A C row c F a=>by obtain⟨E,h2,cv,L,r,e2,ho,Q,e3,hl,ah,hn⟩:=c;exact⟨E,rR.below b lE A C row h2 F a,cv,L,r,rR.ig _ _ _ A C row e2 F a,rR.own A C row ho F a,Q,rR.ig _ _ _ A C row e3 F a,hl,ah,hn⟩
def DY.ab:Ms (DY w):=fun s O e A B c a ho=>by
 obtain⟨E,h2,cv,L,r,e2,hw,Q,e3,hl,ah,hn⟩:=c;have f: ∀g,w.heap.size<=g->g<w.heap.size+4->B.heap[g]? =A.heap[g]? :=fun g N d=>a.block g (by have:=e3.lt;omega) fun h=>by have:=E g h;omega
 refine⟨fun k b=>?_,h2.trans ⟨a.os,a.tape,a.output,a.size,fun k b=>a.block k (by have:=e3.lt;omega) fun h=>by have:=E k h;omega⟩,cv,L,r,(f _ oG oG).trans e2,sM hw fun g F=>a.block g (iB hw g F).2 (Q g F),fun g F h=>?_,(f _ oG oG).trans e3,hl,ah,hn⟩
 ·rcases (ho k b).1 with h|h
  ·exact E k h
  ·have:=e3.lt;omega
 ·rcases (ho g h).1 with N|N
  ·exact Q g F N
  ·have:=(iB hw g F).2;omega
end
def Ny {w':World} {f:List Int} {cap:Nat} (h:OI lb w' (.slice g n cap) f) (hd: ∀u L,OI lb w u L->FK u v->OI lb w' u L/\FK u (.slice g n cap)) (F:w.grownBy w' v.ownBlock):v.ownBlock=some g\/w.heap.size<=g:=by
 rcases iU g w with hlt|hge
 ·left;refine afm fun ar=>?_
  rcases h.2 with ⟨E,-⟩|⟨g2,c2,S,E,h2,N,d,i,j,m⟩
  ·cases E
  ·cases E;have a:w.heap[g]? =some (.cells S 3 (0,0)):=(F.block g hlt (fun e=>ar e.symm)).symm.trans N;have c:OI lb w (.slice g 0 cap) []:=⟨rfl,.inr ⟨g,cap,S,rfl,h2,a,eC _,i,j,by simp⟩⟩;have:=(hd _ _ c (fun b e1 e2=>ar (by cases e1;exact e2))).2;exact this g rfl rfl
 ·exact .inr hge
def ju.below (h:Below W W b) (hn:R<=W) (hO: ∀k,O k->k<W.heap.size):ju B R O W b:=
 ⟨⟨h.size,fun k o _ f _=>(h.block k (aah.1 f).1).trans f⟩,h.mono hn,fun k f=>h.block k (hO k f)⟩
def ju.grown {row:Option Nat} (h:W.grownBy b row) (hn:R<=W) (hO: ∀k,O k->k<W.heap.size) (a: ∀g,row=some g->R<=g/\ ¬O g/\ ∃o,W.heap[g]? =some o/\o.isCells=true):ju B R O W b:=
 ⟨⟨h.size,fun k o _ f ho=>(h.block k (aah.1 f).1 fun e=>by obtain⟨_,_,c,h2,N⟩:=a k e.symm;rw[h2] at f;cases f;rw[N] at ho;cases ho).trans f⟩,
  ⟨h.os,h.tape,h.output,h.size,fun k f=>h.block k oG fun e=>by have:=(a k e.symm).1;omega⟩,fun k f=>h.block k (hO k f) fun e=>(a k e.symm).2.1 f⟩
def ju.set (W:World) (i:Nat) (u:Value) (hn:R<=g) (hO: ¬O g):ju B R O W (W.setCell (pA g i) u):=
 ⟨(KeepsOthers.setCell W _ u).from B,⟨rfl,rfl,rfl,by simp,fun k f=>fX W g i u k oG⟩,fun k f=>fX W g i u k fun e=>hO (e▸f)⟩
def ju.drew (h:ju B R O W b):ju B R O W b.drew:=⟨⟨h.kf.size,h.kf.same⟩,h.bl.drew,h.ok⟩
def OI.cells (h:OI lb w v l): ∀g,v.ownBlock=some g->lb<=g/\ ∃o,w.heap[g]? =some o/\o.isCells=true:=fun g F=>by
 rcases h.2 with ⟨E,-⟩|⟨g2,c2,S,E,h2,N,-⟩
 ·rw[E] at F;cases F
 ·rw[E] at F;cases F;exact⟨h2,_,N,rfl⟩
def OI.put {c k:Nat} (h:OI lb w (.slice g n c) l) (f:k<l) (z:Int):OI lb (w.setCell (pA g k) z) (.slice g n c) (l.set k z):=by
 refine⟨by simp,?_⟩
 rcases h.2 with ⟨E,-⟩|⟨g2,c2,S,E,h2,N,d,i,j,m⟩
 ·cases E
 ·cases E;refine .inr ⟨g,c,S.setIfInBounds k z,by rw[jt],h2,heap_setCell_same w g k S _ _ N,by rw[jt];exact d,i,by simpa using j,?_⟩;rw[vY,jt,Vg,m,List.map_set]
def adq (x:fS) (A1:Option Addr) (c1:Nat) (A2:Option Addr) (c2:Nat) (Ad:Option Addr) (cd:Nat) (d:Dy) (U:Value) (tw:Bool) (fv:Value) (ai:Int) (lv ev:Value) (z q:Int) (w:World) (hx:iz w (.agg (xC x A1 c1 A2 c2).toArray) x) (ho:eV x) (hd:RL 1 jf w (.slice Ad d cd) d)
  (f:jS x.eB 4000 d) (aR:vt w d U tw fv lv ev) (aw: ∀v∈[U,fv,lv,ev],∀g,v.ownBlock=some g->g<w.heap.size):
  Calls prog 336 #[.agg (nD x A1 c1 A2 c2 Ad d cd U tw fv ai lv ev).toArray,.agg #[z,q]] w fun e w'=>
   ∃cv L,e=.returned cv/\OI w w' cv L/\Below w w w':=by
 obtain⟨HX,HO,HD,HK,bA,aH⟩:=Zf hx ho hd f aR aw;clear hx ho hd f aR aw;refine(callsIn_wide (n:=4)).1 ?_;refine callsIn_of_wp_marks func336 rfl trivial ?_ rfl;simp only[ntmps336,gU,ff,fZ,Nat.reduceAdd,Nat.reduceSub,iq,ir,iX,iA,gQ,fY]
 gi_upto_region 3 with fail
 obtain⟨w1,aC,⟨e0,e1,e2,e3,-⟩,aL,au⟩:=sk w [(375,nD x A1 c1 A2 c2 Ad d cd U tw fv ai lv ev),(84,[z,q]),(26,[()]),(3,[(-1:)])];simp only[Hk] at aC;rw[aC];replace au:w1.heap.size=w.heap.size+1+1+1+1:=au;clear aC;obtain⟨q0,q1,q2,q3,q4,q5,q6,q7,q8,q9,aW,aX,aY,-⟩:=e0.iY;simp only[Nat.reduceAdd] at q1 q2 q3 q4 q5 q6 q7 q8 q9 aW aX aY;have s0:=e1.c 0;have s1:=e1.c 1;gi_wp2;refine⟨trivial,callsIn_wide.2 ((Bu x A1 c1 A2 c2 Ad d cd U tw fv ai lv ev z q _).mono ?_)⟩;rintro e wB ⟨rfl,bk,bs,ak,aV⟩;have P:=aL.trans (ak.mono aL.size);have h2:=e2.below ak e2.lt;have N:=e3.below ak e3.lt;have aq: ∀v∈[U,fv,lv,ev],InO (fun b=>(w1.heap.size<=b/\b<wB.heap.size)\/b<w.heap.size) v:=fun v hv g F=>.inr (aH v hv g F);have bG:Hid (mi w w1 (w1+1) w x A1 c1 A2 c2 Ad cd d U tw fv ai lv ev z q (fun b=>w1.heap.size<=b/\b<wB.heap.size) wB):=zH
  ⟨P,bk,bs,bA.below P lE,⟨lE,oG⟩,⟨oG,oG⟩,aq _ sI,aq _ sI,aq _ sI,aq _ sI,fun k h=>h.2⟩
 have cA:=zH aV;have cI:w1.heap.size<=wB.heap.size:=ak.size;have cw:=zH au;have aS:w.heap.size+4<=w1.heap.size:=oG;clear au aq bk bs ak aV q0 q1 q2 q3 q4 q5 q6 q7 q8 q9 aW aX aY s0 s1 e0 e1 e2 e3;gi_wp2;refine(qL oG (gf:=337) (lb:= #[.pointer (pB (w1+1)),.pointer w1]) rfl (enters_of func337 kR rfl)
  (xu w w1 (w1+1) w x A1 c1 A2 c2 Ad cd d U tw fv ai lv ev z q 4000 HX HO HD HK oG rfl) P.size (fun s O W x h=>by obtain⟨t,p,m,rfl,-⟩:=h;rfl)
  (DY w) DY.ab (DY.bk P.size) (fun b=>w1.heap.size<=b/\b<wB.heap.size) (fun k h=>h.2) (fun W F=>bG.below ⟨F.os,F.tape,F.output,F.size,fun k f=>F.block k f sI⟩ P.size)
  ⟨fun k h=>eZ aS h.1,P,(),[],-1,h2,OI.jL _ _,(fun g h=>by simp[Value.ownBlock] at h),N,lE,by simp,fun h=>absurd rfl h⟩ ?round ?done)
 case round=>
  intro m l s O x' W K hI bJ hO bY G;obtain⟨t',p',C,rfl,aU,bZ⟩:=bJ;have cK:(0:Int)<=t':=by rcases aU.at_ with ⟨k,u,j,rfl,-⟩|⟨rfl,-⟩ <;>omega
  have bW:=HK.wt;have cH:s<=4000:=eZ bZ bW;have aJ:DY w s O (W.alloc (cB 380 (vm t' p' C))):=DY.ab s O O _ _ hI (gI.alloc O W _) (fun k f=>⟨.inl f,bP (hO k f) sI⟩);have aI:ju wB w O W (W.alloc (cB 380 (vm t' p' C))):=⟨(KeepsOthers.alloc _ _).from _,(bS _ W).alloc (eZ P.size bY) _,fun k f=>((bS _ W).alloc lE _).block k (hO k f)⟩;have I:=fc.new W 380 (vm t' p' C);obtain⟨aE,aD,aG⟩:=Zc aJ aI I;clear aU hI aJ aI I h2 N;gi_wp2;refine G _ _ aD (fun m l V ag cG az=>?_);have I:=az _ (rR.ig W 380 (vm t' p' C)) aG;obtain⟨E,hb,cv,L,r,g2,ae,Q,g3,hl,ah,hn⟩:=az _ (DY.bk P.size s O) aE;obtain⟨Ac,cc,rfl,-⟩:=ae.slice;obtain⟨H,af⟩:=Zb ae Q;have lN:=I.lt;have l2:=g2.lt;have l3:=g3.lt;have R:=I.c 0;have n2:=I.c 2;have c2:=g2.c 0;have c3:=g3.c 0;clear aE aG aD az ae Q
  gi_upto_if 15 with fail
  gi_cut [] from 12 (fun wx=> ∃(Ax:Option Addr) (cx:Nat) (M:List Int) (lx:Int),fc wx (w+1+1) 26 [.slice Ax M cx]/\Hid (OI (w+4) wx (.slice Ax M cx) M)/\Hid (∀g,(Value.slice Ax M cx).ownBlock=some g-> ¬O g)/\
   fc wx (w+1+1+1) 3 [lx]/\fc wx W 380 (vm t' p' C)/\M.length<=s+1/\M.length<=4001/\M≠[]/\Hid (ju wB w O V wx)/\V.heap.size<=wx)
  case first=>
   by_cases ar:t'=r
   ·subst ar;gi_wp2_with fail;gi_meet;exact⟨Ac,cc,L,t',g2,H,af,g3,I,oG,ah,hn oG,(ju.refl _ _ _ _),lE⟩
   ·gi_upto_region 6 with fail
    refine xx (fun wS=>wS.cell? W=some t'/\wS.cell? (pA W 2)=some C) [] kR kR ?_ (fun hS=>?_)
    ·exact⟨R,n2⟩
    refine kL [1,2,5,6] ?_;refine pU ?_;refine mL 0 3 rfl rfl rfl rfl kR (fun K G=>?_) (fun K G=>?_)
    ·go_simp;refine G _ _ (hS) ?_;refine tO 3 fun K G=>?_;go_simp;have bV:=(fc.new V 3 [C]).drewN 1;have a:Below V V ((V.alloc (cB 3 [C])).drew):=(bL bF _).drew;revert bV a;show∀(bV:fc ((V.alloc (cB 3 [C])).drew) _ _ _),_;generalize (V.alloc (cB 3 [C])).drew=W4;intro bV a;have aT:=a.size;exact Rp
    ·go_simp;have bV:=(fc.new V 3 [C]).drewN 1;have a:Below V V ((V.alloc (cB 3 [C])).drew):=(bL bF _).drew;revert bV a;show∀(bV:fc ((V.alloc (cB 3 [C])).drew) _ _ _),_;generalize (V.alloc (cB 3 [C])).drew=W4;intro bV a;have aT:=a.size;refine G _ _ (⟨a7 a lE R,a7 a lE n2⟩) ?_;have c24:W4.cell? (pB (w+1+1))=some (.slice Ac L cc):=a7 a lE c2;refine tO 0 fun K G=>?_;go_simp;exact Rp
  case rest=>
   obtain⟨Ax,cx,M,lx,f2,HM,aF,f3,fN,cF,cj,bU,bh,cJ⟩:=hcut;clear c2 c3 R n2 g2 g3 I H af hn;obtain⟨k,f⟩: ∃k,M.length=k+1:=⟨M.length-1,by have:=jQ.2 bU;omega⟩;obtain⟨g,rfl,fz⟩: ∃g,Ax=some ⟨g,0,none⟩/\wc.frozen? (pA g k)=false:=by
    rcases HM.2 with ⟨-,h⟩|⟨g,c,S,h,-,N,-⟩
    ·omega
    ·cases h;exact⟨g,rfl,by simp[World.frozen?,N]⟩
   obtain⟨zl,cg⟩:=ec (l:=M) (i:=k) oG;have cz:wc.cell? (pA g k)=some zl:=by obtain⟨A,c,hA,-,-,hc⟩:=gx.open_ HM.reads;obtain⟨b,o,hb,-,y⟩:=hc k zl cg;cases hA;cases hb;simpa using y
   rw[f] at f2;have c2:=f2.c 0;have n2:=fN.c 2;have hw:IntKind.i64.wrap (k:Int)=k:=by rw[jB];omega
   have cD:(0:Int)<=k:=oG;have cE:(k:Int)<(k:Int)+1:=oG
   gi_upto_region 7 with fail
   refine xx (fun wS=>wS.cell? (pB (w+1+1))=some (.slice g (k+1) cx)/\wS.cell? (pA g k)=some zl/\wS.cell? (pA W 2)=some C) [14] kR kR ?_ (fun hS=>?_)
   ·exact⟨c2,cz,n2⟩
   refine kL [0,1,2,3,4,5,6,7,8,9,10,11,12,13] ?_;refine tL 14 fun K G=>?_;go_simp;refine G _ _ ?_;refine tD ?_;gi_wp2;have cC:w.heap.size+4<=g:=(HM.cells g rfl).1;have bO:=aF g rfl;have aK:=HM.put (k:=k) oG (min zl C);have aQ:(M.set k (min zl C)).length=k+1:=by rw[jt,f]
   have aN:=(bh.out.trans (ju.set wc k (.int .i64 (min zl C)) oG bO)).drew;refine⟨aN,fun q hq=>E q hq,hb.trans aN.bl,.slice g (k+1) cx,M.set k (min zl C),lx,?_,?_,aF,?_,oG,oG,fun _ h=>by rw[h] at aQ;cases aQ⟩
   ·exact f2.kj (p:=pA g k) dO _
   ·rw[f] at aK;exact aK
   ·exact f3.kj (p:=pA g k) dO _
 case done=>intro D s O W hD hI aA;obtain⟨E,hb,cv,L,r,g2,ae,Q,g3,hl,ah,hn⟩:=hI;obtain⟨Ac,cc,rfl,-⟩:=ae.slice;have c2:=g2.c 0;have l2:=g2.lt;have l3:=g3.lt;have H:=zH ae;clear ae Q hn E;gi_wp2;refine⟨trivial,callsIn_wide.2 ((zm _ _ L W H oG).mono ?_)⟩;rintro e w5 ⟨rfl,T,B⟩;have bB:=zH T;have J:=B.ig g2 dE;have c25:=J.c 0;have aO:w5.heap[D]? =some (.deferred (some [])):=(B.block D (aah.1 aA).1 (.inr fun cs fr e=>by rw[aA] at e;cases e)).trans aA;have aM:=hb.trans ((B.below oG).mono oG);obtain⟨ax,aZ⟩:=Zb aO aM;clear T B aO aM;gi_wp2;refine⟨by simp,.inl ⟨_,_,rfl,run_takeDeferred ax,?_⟩⟩;have aP:OI w (w5.putObj D (.deferred none)) (.slice Ac L cc) (qU L):=OI.mono (lb:=w.heap.size+4) (ownsRow_putObj bB _ ax rfl) oG;exact⟨_,results_tmp rfl _ _ _,.slice Ac L cc,qU L,rfl,aP,nb aZ lE (by have:=P.size;omega) ax⟩
end
section
open Go.Proofs.Tryz
open Go.RowKit Go.Shelf jm ko kN J8 P15
attribute [local go_sem] iO
variable {P:Program} {Q:Exit->Act->World->Prop} {a:Act} {o:Oper}
def Kz (Ad:Option Addr) (n cd:Nat) (w:World):
  Calls prog 310 #[.agg #[.slice Ad n cd]] w fun e w'=>e=.returned (.func (.func 324) #[] #[.pointer w])/\fc w' w 39 [.slice Ad n cd]/\Below w w w'/\w'.heap.size=w.heap.size+1:=by
 go_enter func310,ntmps310;go_wp2;go_ret;exact⟨rfl,fc.new w _ _,bL bF _,by simp⟩
def Dg:(prog.info? 320).map (·.size)=some 5:=kR
inductive PK (d:Dy) (w:World) (e:Ending) (w':World):Prop
 |mk (k a b i j l:Int) (s:Bool) (he:e=.returned (.tuple #[.agg (qo k a b i j).toArray,l,s])) (hl:s=true->LK d k a b i j) (hb:Below w w w')
def tN {K:Act->World->Prop} (w:World) (c:TypeId) (x:Operand) (ho:o.op=.load c x) (g:Nat) (t:TypeId) (b:List Value) (d:TypeDesc) (hx:a.eval x=.pointer g) (hb:fc w g t b)
  (k:P.underlying c=some d) (hd:d.isRow=true) (f:(P.info? c).map (·.size)=some b) (h:K (a.put o.dst (.agg b.toArray)) w):o.wp P a w K Q:=by
 unfold Oper.wp;rw[nK w c x ho g t b d hx hb k hd f];exact h
def FD {b:Array Oper} {rest:List Oper} (c:Region.wanted o (yielded b a.tmps)=true)
  (h: ∀K:Act->World->Prop,(∀a w,wpList P b Q rest a w->K a w)->o.wp P a w K Q):wpList P b Q (o::rest) a w:=wpList_step fun K y=>by rw[if_pos c];exact h K y
def Gu {l:Func} {p r s:Tmp} {c:TypeId} (h:l.results= #[.cell p c,.tmp r,.tmp s]) (tmps:Array Value) (w:World) (g:Nat) (t:TypeId) (b:List Value) (d:TypeDesc) (u v:Value)
  (m:tmps.getD p undef=.pointer g) (L:tmps.getD r undef=u) (e:tmps.getD s undef=v) (J:fc w g t b)
  (k:P.underlying c=some d) (hd:(match d with| .struct _| .array _ _=>true|_=>false)=true) (f:(P.info? c).map (·.size)=some b):
  (results l tmps).run P w=.ok (.tuple #[.agg b.toArray,u,v]) w:=by
 have a:tmps[p]?.getD undef=.pointer g:=by simpa using m
 have i:tmps[r]?.getD undef=u:=by simpa using L
 have j:tmps[s]?.getD undef=v:=by simpa using e
 simp[results,h,a,i,j,asAddr,run_loadVar_row w g t c b.toArray (0,0) d J k hd (by simpa using f)]
def yn {r m id:Nat} {l:List Oper} (b:IQ l.toArray=true) (h:wpList P l.toArray (oB Q) l a w):(Code.region id l.toArray false).wpIn (Fence.wide.inRound r) m P Q a w:=
 wpIn_mono (wpIn_region_lit (FE VK l (fun o ho=>by obtain⟨i,f⟩:=gz.1 ho;exact IU b (by simpa using f)) a w h)) x9
def FI (d:Dy) (w1:World) (g rb b8 b9 b:Nat):Jt:=fun _ O W=>
 ((∀k,O k->b<=k)/\b<=W)/\Below w1 w1 W/\fc W rb 347 [.pointer g]/\ ∃k a c i j l:Int,fc W b8 320 (qo k a c i j)/\fc W b9 3 [l]/\(l<0->LK d k a c i j)
section
variable {d:Dy} {w1:World} {rb b8 b9:Nat}
def FI.bk {B:Nat} (e:w1.heap.size<=B) (s:Nat) (O:Nat->Prop):rR B (FI d w1 g rb b8 b9 b s O):=fun A C row f J L=>by obtain⟨⟨h1,h6⟩,P,h3,k,a,c,i,j,l,h4,h5,h7⟩:=f;exact⟨⟨h1,eZ h6 J.size⟩,rR.below e lE A C row P J L,rR.ig _ _ _ A C row h3 J L,k,a,c,i,j,l,rR.ig _ _ _ A C row h4 J L,rR.ig _ _ _ A C row h5 J L,h7⟩
def FI.ab (m:w1.heap.size<=b) (L:rb<b) (n:b8<b) (o:b9<b):Ms (FI d w1 g rb b8 b9 b):=fun s O r A B f e ho=>by
 obtain⟨⟨h1,h6⟩,P,h3,k,a,c,i,j,l,h4,h5,h7⟩:=f;have hk: ∀q,q<b->q<A.heap.size->B.heap[q]? =A.heap[q]? :=fun q H p=>e.block q p fun h=>by have:=h1 q h;omega
 refine⟨⟨fun q H=>?_,eZ h6 e.size⟩,P.trans ⟨e.os,e.tape,e.output,e.size,fun q H=>hk q oG (by have:=P.size;omega)⟩,(hk _ L h3.lt).trans h3,k,a,c,i,j,l,(hk _ n h4.lt).trans h4,(hk _ o h5.lt).trans h5,h7⟩
 rcases (ho q H).1 with h|h
 ·exact h1 q h
 ·omega
end
def Kl (xv dv:Value) (x:fS) (d:Dy) (K:Nat) (w:World) (hx:iz w xv x) (ho:eV x) (hd:RL 1 jf w dv d) (hk:jS x.eB K d) (y:K<=1000000):
  Calls prog 281 #[xv,.agg #[dv]] w (PK d w):=by
 obtain⟨A1,c1,A2,c2,rfl⟩:=hx.agg;obtain⟨Ad,cd,rfl,bB,bG,-⟩:=iK.open_ hd;obtain⟨HX,HO,HD,HK⟩:=Zd hx ho hd hk;have aa: ∀t∈d,t.length<=1000000:=fun t ht=>by have:=hk.Su ht;omega
 have HL:=zH aa;clear hx ho hd hk aa;refine(callsIn_wide (n:=4)).1 ?_;refine callsIn_of_wp_marks func281 rfl trivial ?_ rfl;simp only[ntmps281,gU,ff,fZ,Nat.reduceAdd,Nat.reduceSub,iq,ir,iX,iA,gQ,fY];gi_wp2;have ha:=bL (bL (bL (bS w w) (cB 25 (xC x A1 c1 A2 c2))) (cB 39 [.slice Ad d cd])) (cB 320 (qo 0 0 0 0 0));have bd:=(fc.fW (w.alloc (cB 25 (xC x A1 c1 A2 c2))) 39 [.slice Ad d cd] (g:=w.heap.size+1) sI).alloc (cB 320 (qo 0 0 0 0 0));have bm:=fc.fW ((w.alloc (cB 25 (xC x A1 c1 A2 c2))).alloc (cB 39 [.slice Ad d cd])) 320 (qo 0 0 0 0 0) (g:=w.heap.size+1+1) sI;refine⟨trivial,callsIn_wide.2 ((LG _ _ x d K _ (HX.below ha lE) HO (iK.below HD ha lE) HK y).mono ?_)⟩;rintro e w1 ⟨g,rfl,J,L,X⟩;have HR:=zH L;replace bd:=bd.below X bd.lt;replace bm:=bm.below X bm.lt;have A:=ha.trans (X.mono ha.size);have bh:w.heap.size+3<=w1.heap.size:=by have:=X.size;simpa using this
 clear L X ha J;have e0:=bd.c 0;have ld:=bd.lt
 gi_upto_region 3 with fail
 have br:=((fc.new w1 347 [.pointer g]).alloc (cB 320 (qo 0 0 0 0 0))).alloc (cB 3 [Zo]);have b8:=(fc.fW (w1.alloc (cB 347 [.pointer g])) 320 (qo 0 0 0 0 0) (g:=w1.heap.size+1) sI).alloc (cB 3 [Zo]);have b9:=fc.fW ((w1.alloc (cB 347 [.pointer g])).alloc (cB 320 (qo 0 0 0 0 0))) 3 [Zo] (g:=w1.heap.size+1+1) sI;have R:=bL (bL (bL (bS w1 w1) (cB 347 [.pointer g])) (cB 320 (qo 0 0 0 0 0))) (cB 3 [Zo]);revert br b8 b9 R;generalize ((w1.alloc (cB 347 [.pointer g])).alloc (cB 320 (qo 0 0 0 0 0))).alloc (cB 3 [Zo])=w2;intro br b8 b9 R;have l9:=b9.lt;replace e0:=a7 R lE e0;replace ld:=bP ld R.size;gi_wp2;refine⟨trivial,callsIn_wide.2 ((Kz Ad d cd w2).mono ?_)⟩;rintro e wB ⟨rfl,ax,S,bW⟩;have Y:=R.trans (S.mono R.size);have T:=A.trans (Y.mono A.size);have aZ:=Y.size;have aI:=S.size;have aY:=ax.lt;replace br:=br.below S br.lt;replace b8:=b8.below S b8.lt;replace b9:=b9.below S b9.lt;have bJ:RL 1 jf wB (.slice Ad d cd) d:=iK.below HD T lE;clear e0 ld S;gi_wp2;refine(qL oG (gf:=324) (lb:= #[.pointer w2]) rfl (enters_of func324 kR rfl)
  (F6 w w2 w _ d HD HL rfl) T.size (fun s O W x h=>by obtain⟨_,_,_,_,_,rfl,-⟩:=h;rfl)
  (FI d w1 g w1 (w1+1) (w1+1+1) w2) (FI.ab oG oG oG oG) (FI.bk oG) (fun b=>b=w2.heap.size) (fun k h=>by omega)
  (fun W J=>⟨T.trans ⟨J.os,J.tape,J.output,J.size,fun k hk=>J.block k (by have:=T.size;omega) sI⟩,fun k h=>by have:=J.size;omega,(J.block _ aY sI).trans ax,rfl⟩)
  ⟨⟨fun k h=>oG,aI⟩,Y,br,0,0,0,0,0,0,b8,b9,fun h=>oG⟩ ?round ?done)
 case round=>
  intro m l s O x' W K hI aT hO aV y;obtain⟨k,i,j,a,b,rfl,ha,hb,aH⟩:=aT;have aN:=zH aH;clear aH;have an:=zH (FI.ab (d:=d) (w1:=w1) (g:=g) oG oG oG oG s O O _ _ hI (gI.alloc O W (cB 320 (qo k a b i j))) (fun q H=>⟨.inl H,bP (hO q H) sI⟩));have al:Hid (ju wB w O W (W.alloc (cB 320 (qo k a b i j)))):=zH (ju.below ((bS _ W).alloc lE _) (eZ T.size aV) hO);have ao:=zH (fc.new W 320 (qo k a b i j));clear hI;gi_wp2;refine y _ _ al (fun m l W2 az aI ah=>?_);have bN:=ah _ (rR.ig W 320 (qo k a b i j)) ao;obtain⟨⟨h1,h6⟩,P,h3,k',a',c',i',j',l',h4,h5,h7⟩:=ah _ (FI.bk oG s O) an;have H7:=zH h7;clear h7;clear an ao al ah;have aw:=bd.below P bd.lt;have bZ:=aw.lt;have e0:=aw.c 0;obtain⟨m0,m1,m2,m3,m4,-⟩:=bN.iY;have lN:=bN.lt
  gi_upto_region 5 with fail
  gi_cut [11,12,13] from 22 (fun p q o wc=> ∃(g1 g2:Nat) (r1 r2:List Pc) (ok:Bool),p=.pointer g1/\q=.pointer g2/\o=.bool ok/\fc wc g1 355 (kJ r1)/\fc wc g2 355 (kJ r2)/\lA d r1/\lA d r2/\W2.heap.size<=g1/\W2.heap.size<=g2/\Below W2 W2 wc)
  case first=>
   have aE:RL 1 jf W2 (.slice Ad d cd) d:=iK.below HD (A.trans (P.mono A.size)) lE;gi_wp2;refine⟨trivial,nF,n9 ((xU _ d k a b i j _ aE HL).mono ?_)⟩;rintro e wl ⟨r1,r2,ok,rfl,L,-,aB⟩;obtain⟨R1,U⟩:=nR (kJ r1);obtain⟨R2,V⟩:=nR (kJ r2);have n1:=lC r1;have n2:=lC r2;have a1:=oU r1;have a2:=oU r2;rw[U,L.o1.1] at n1;rw[V,L.o2.1] at n2;rw[U] at a1;rw[V] at a2;rw[U,V];have I1:=zH (show(prog.info? 355).map (·.size)=some R1.length by rw[n1];exact gZ);have I2:=zH (show(prog.info? 355).map (·.size)=some R2.length by rw[n2];exact gZ);obtain⟨N1,N2,aK,aL,aO,aP,au⟩:=Zg n1 n2 a1 a2 U V L;have ae:=aB.size;clear n1 n2 a1 a2 U V L aE;gi_wp2_with (first
    |(refine wpListIn_plain rfl fun K y=>Bp (fun c e=>by cases e) (gY _ 355 (.tmp 11) (.tmp 26) rfl wl 355 gO R1 ((fc.fW wl 355 gO (g:=wl.heap.size) rfl).alloc _) rfl rfl I1 N1.symm aK ?_);intro w3 b3 ai bO;refine y _ _ ?_)
    |(refine wpListIn_plain rfl fun K y=>Bp (fun c e=>by cases e) (gY _ 355 (.tmp 12) (.tmp 27) rfl (wl+1) 355 gO R2 ((fc.fW (wl.alloc (cB 355 gO)) 355 gO (g:=wl.heap.size+1) sI).grown ai sI) rfl rfl I2 N2.symm aL ?_);intro w4 b4 aG bU;refine y _ _ ?_))
   gi_meet;have aF:=ai.size;simp at aF;exact⟨_,_,r1,r2,ok,rfl,rfl,rfl,by rw[aO.out];exact b3.grown aG sI,by rw[aP.out];exact b4,au.o1,au.o2,ae,oG,
    aB.trans ((((bL (bL (bS wl wl) (cB 355 gO)) (cB 355 gO)).grown ai sO (fun q H=>by cases H;omega)).grown aG oG (fun q H=>by cases H;omega)).mono ae)⟩
  case rest=>
   obtain⟨g1,g2,r1,r2,ok,rfl,rfl,rfl,N,E,aj,ak,bH,bI,M⟩:=hcut;have I:=bN.below M lN;have v:=h3.below M h3.lt;have C:=h4.below M h4.lt;have u:=h5.below M h5.lt;have f:=P.trans (M.mono P.size);have Q:Hid (pI wc g x d):=zH (HR.below f lE);clear m0 m1 m2 m3 m4 e0;obtain⟨m0,m1,m2,m3,m4,-⟩:=I.iY;have e1:=v.c 0;have I1:Hid ((prog.info? 355).map (·.size)=some (kJ r1).length):=zH (by rw[lC,aj.1];exact gZ);have I2:Hid ((prog.info? 355).map (·.size)=some (kJ r2).length):=zH (by rw[lC,ak.1];exact gZ);obtain⟨aq,ar⟩:=Zb aj ak;clear aj ak;have aJ:=M.size;gi_wp2_with (first
    |(refine wpListIn_plain rfl fun K y=>Bp (fun c e=>by cases e) (tN _ 355 (.tmp 11) rfl g1 355 _ _ rfl N underlying355 rfl I1 ?_);refine y _ _ ?_)
    |(refine wpListIn_plain rfl fun K y=>Bp (fun c e=>by cases e) (tN _ 355 (.tmp 12) rfl g2 355 _ _ rfl E underlying355 rfl I2 ?_);refine y _ _ ?_))
   refine⟨trivial,nF,n9 ((Le g x d k i j a b r1 r2 _ Q aq ar ha hb HL).mono ?_)⟩;rintro e w5 ⟨z,rfl,F⟩;replace I:=I.below F I.lt;replace v:=v.below F v.lt;replace C:=C.below F C.lt;replace u:=u.below F u.lt;replace N:=N.below F N.lt;replace E:=E.below F E.lt;replace Q:Hid (pI w5 g x d):=zH (Q.below F lE);replace f:=f.trans (F.mono f.size);have Z:=M.trans (F.mono aJ);clear m0 m1 m2 m3 m4 e1;have e1:=v.c 0;have e9:=u.c 0;have l1:=v.lt;have bY:=u.lt
   gi_upto_region 7 with fail
   gi_cut [46] from 34 (fun s wx=> ∃b:Bool,s=.bool b/\Below w5 w5 wx)
   case first=>
    refine yn kR ?_;by_cases hz:z<l'
    ·go_wp2_with (refine FD (by rfl) fun K y=>tN _ 355 (.tmp 11) rfl g1 355 _ _ rfl N underlying355 rfl I1 (y _ _ ?_));refine(CH g x d r1 _ Q aq HL).mono ?_;rintro e w6 ⟨f1,rfl,r⟩;cases f1
     ·go_wp2_with fail;unfold oB
      gi_wp2;gi_meet;exact⟨false,rfl,r⟩
     ·have e1:w6.cell? w1=some (.pointer g):=a7 r lE e1;have E:=E.below r E.lt;go_wp2_with (refine FD (by rfl) fun K y=>tN _ 355 (.tmp 12) rfl g2 355 _ _ rfl E underlying355 rfl I2 (y _ _ ?_));refine(CH g x d r2 _ (Q.below r lE) ar HL).mono ?_;rintro e w7 ⟨f2,rfl,aU⟩;go_wp2_with fail;unfold oB;gi_wp2;gi_meet;exact⟨f2,rfl,r.trans (aU.mono r.size)⟩
    ·go_wp2_with fail;unfold oB
     gi_wp2;gi_meet;exact⟨false,rfl,bS _ _⟩
   case rest=>
    obtain⟨bb,rfl,r⟩:=hcut;replace I:=I.below r I.lt;replace v:=v.below r v.lt;replace C:=C.below r C.lt;replace u:=u.below r u.lt;replace f:=f.trans (r.mono f.size);replace Z:=Z.trans (r.mono Z.size);have aW:=Z.size;have aR: ∀B,ju B w O W2 wc:=fun B=>ju.below Z oG az;have aS: ∀q,O q->q<wc.heap.size:=fun q H=>bP (az q H) aW;clear e1 e9 Q N E;cases bb
    ·gi_wp2;exact⟨⟨h1,oG⟩,f,v,_,_,_,_,_,_,C,u,H7⟩
    ·obtain⟨m0,m1,m2,m3,m4,-⟩:=I.iY;have f9:=u.frozen 0;have e9:=u.c 0;gi_wp2_with (refine wpListIn_plain rfl fun K y=>Bp (fun c e=>by cases e) (gY _ 320 (.tmp 8) (.tmp 47) rfl (w1+1) 320 _ (qo k a b i j) C rfl rfl Dg rfl rfl ?_);intro w9 ag G aX;have q9:=u.grown (w':=w9) G sI;have c99:w9.cell? (pB (w1+1+1))=some l':=q9.cell 0;have bA:=q9.frozen 0;refine y _ _ ?_);have aQ: ∀B,ju B w O W2 (w9.setCell (pB (w1+1+1)) z):=fun B=>(aR B).trans ((ju.grown G oG aS (fun q H=>by cases H;exact⟨oG,fun h=>by have:=h1 _ h;omega,_,C,rfl⟩)).trans (ju.set w9 0 _ oG (fun h=>by have:=h1 _ h;omega)));exact⟨aQ _,⟨h1,by simp;omega⟩,(f.grown G oG (fun q H=>by cases H;omega)).setCell (p:=pB (w1+1+1)) dO _,(v.grown G sI).kj (p:=pB (w1+1+1)) dO _,_,_,_,_,_,_,ag.kj (p:=pB (w1+1+1)) dO _,q9.gH 0 _,fun _=>aN⟩
 case done=>
  intro D s O W hD hI aD;obtain⟨⟨h1,h6⟩,P,h3,k,a,c,i,j,l,h4,h5,h7⟩:=hI;have H7:=zH h7;clear h7;have ay:=bm.below P bm.lt;have lm:=ay.lt
  gi_upto_region 9 with fail
  refine wpIn_wide.2 ?_;refine rG (fun wS=>fc wS (w1+1) 320 (qo k a c i j)/\fc wS (w1+1+1) 3 [l]) [] (⟨h4.drew,h5.drew⟩) fun hS=>?_;refine kL [0,1,2,3] ?_;refine tO 4 fun K y=>?_;refine gY _ 320 (.tmp 4) (.tmp 49) rfl (w+1+1) 320 _ (qo k a c i j) ay.drew rfl rfl Dg rfl rfl ?_;intro w9 ag G aX;have hS:fc w9 _ _ _/\fc w9 _ _ _:=⟨h4.drew.grown G (fun h=>by have:=fg h;omega),h5.drew.grown G (fun h=>by have:=fg h;omega)⟩;refine y _ _ (hS) ?_;refine kL [5,6] ?_;refine tD ?_;have aC:w9.heap[D]? =some (.deferred (some [])):=(G.block D (aah.1 aD).1 (fun e=>by cases e;omega)).trans aD;have aA:Below w w w9:=(A.trans (P.mono A.size)).drew.grown G (by have:=P.size;show w.heap.size<=W;omega) (fun q H=>by cases H;omega);obtain⟨af,aM⟩:=Zb aC aA;clear aC aA;gi_wp2;refine⟨by simp,.inl ⟨_,_,rfl,run_takeDeferred af,?_⟩⟩;exact⟨_,Gu rfl _ _ (w+1+1) 320 (qo k a c i j) _ l (.bool (decide (l<0))) rfl rfl rfl (pS ag af rfl _) underlying320 rfl Dg,⟨k,a,c,i,j,l,_,rfl,fun h=>H7 (of_decide_eq_true h),nb aM lE (by have:=T.size;omega) af⟩⟩
end
section
open Go.Proofs.Tryz
open Go.RowKit Go.Shelf jm ko kN P15
def GS (x:fS) (A1:Option Addr) (c1:Nat) (A2:Option Addr) (c2:Nat) (H:Option Addr) (J:Nat) (d:Dy) (k:Value) (M:Bool) (A:Value) (o:Int) (G y sv:Value) (L:Tr) (w:World) (hx:iz w (.agg (xC x A1 c1 A2 c2).toArray) x) (ho:eV x) (hd:RL 1 jf w (.slice H d J) d)
  (hk:jS x.eB 4000 d) (E:vt w d k M A G y) (n: ∀v∈[k,A,G,y],∀g,v.ownBlock=some g->g<w.heap.size) (hs:RL 2 iH w sv L):
  Calls prog 319 #[.agg (nD x A1 c1 A2 c2 H d J k M A o G y).toArray,sv] w fun e w'=>
   ∃z:Int,e=.returned z/\ -1<=z/\z<L/\(L≠[]->0<=z)/\Below w w w':=by
 obtain⟨As,cs,rfl,an,ao,F⟩:=fQ.open_ hs;obtain⟨HX,HO,HD,HK,N,u,O⟩:=Zg hx ho hd hk E n F;clear hx ho hd hk E n hs F;go_enter func319,ntmps319;go_wp2_with fail;go_loopw [13,5,6] (fun Y pv mv wr=> ∃(i:Nat) (p m:Int),i<=L/\Y=.int .i64 i/\pv=.int .i64 p/\mv=.int .i64 m/\ -1<=p/\p<L/\(0<i->0<=p)/\fc wr w 375 (nD x A1 c1 A2 c2 H d J k M A o G y)/\Below w w wr) (fun Y _ _ _=>L.length-(intOf Y).toNat)
 case atStart=>exact⟨0,-1,0,eC _,rfl,rfl,rfl,oG,oG,oG,fc.new w _ _,bL bF _⟩
 case round=>
  obtain⟨i,p,m,hi,rfl,rfl,rfl,T,U,V,I,r⟩:=hrel;have lk:=I.lt;by_cases j:i<L
  ·obtain⟨⟨z,q⟩,hz⟩:=ec j;obtain⟨bs,os,rfl,S,Z,y1⟩:=O i _ hz;replace Z:=a7 r lE Z;replace y1:=a7 r lE y1;have aa:=bP S r.size;obtain⟨d0,d1,d2,d3,d4,d5,d6,d7,d8,d9,P,Q,R,-⟩:=I.iY;clear hz;go_wp2_with fail;have K:=bL (bS wr wr) (cB 84 [z,q]);have c:=r.trans (K.mono r.size);have W:=c.size;refine(adq x A1 c1 A2 c2 H J d k M A o G y z q _ (HX.out.below c lE) HO.out (iK.below HD.out c lE) HK.out (N.out.below c lE) (fun v X g hg=>by have:=u.out v X g hg;omega)).mono ?_;rintro e w5 ⟨cv,C,rfl,s,B⟩;obtain⟨Ac,cc,rfl,-⟩:=s.slice;have f:=c.trans (B.mono W);have l:=(I.below K lk).below B (bP lk K.size);obtain⟨af,ag,X,ai,aj,D⟩:=gx.open_ s.reads;cases X;clear s d0 d1 d2 d3 d4 d5 d6 d7 d8 d9 P Q R I r Z y1 c K;have ae: ∀t:Int,(t=i\/t=p/\ ¬p<0)-> -1<=t/\t<L/\(0<i+1->0<=t):=fun t h=>by omega
   match C with
   | []=>
    go_wp2_with fail;go_ret
    exact⟨i,rfl,oG,oG,fun _=>oG,f⟩
   | [a]=>
    by_cases hp:p<0;all_goals
     go_wp2_with fail;all_goals first
      |exact⟨⟨i+1,i,_,j,rfl,rfl,rfl,oG,oG,fun _=>oG,l,f⟩,by simp[intOf];omega⟩
      |exact⟨⟨i+1,p,m,j,rfl,rfl,rfl,oG,oG,fun _=>oG,l,f⟩,by simp[intOf];omega⟩
   |a::b::C=>
    obtain⟨b2,o2,rfl,ah,e0⟩:=D 0 a rfl;obtain⟨b3,o3,h3,-,e1⟩:=D 1 b rfl;cases h3;have ak:(0:Int)<(C.length:Int)+1+1:=oG;have al:(1:Int)<(C.length:Int)+1+1:=oG;go_upto_region 9 with fail
    refine rG (fun wS=>wS.cell? (pA b2 o2)=some a/\wS.cell? (pA b2 (o2+1))=some b) [] (⟨e0,e1⟩) fun hS=>?_;refine kL [0,1,2,3,4,5,6,7] ?_;refine tD ?_;generalize IntKind.i64.wrap (b-a)=ba;by_cases hp:p<0;all_goals
     go_wp2_with fail;all_goals first
      |exact⟨⟨i+1,i,_,j,rfl,rfl,rfl,oG,oG,fun _=>oG,l.drew,f.drew⟩,by simp[intOf];omega⟩
      |exact⟨⟨i+1,p,m,j,rfl,rfl,rfl,oG,oG,fun _=>oG,l.drew,f.drew⟩,by simp[intOf];omega⟩
  ·obtain rfl:i=L.length:=oG;go_wp2_with fail;go_ret;exact⟨p,rfl,T,U,fun h=>V (jQ.2 h),r⟩
abbrev aaz (x:fS) (L:Tr) (w w':World) (v:Value):Prop:= ∃dv d b,v= .tuple #[.agg #[dv],.bool b]∧OT w.heap.size w' dv d∧jS x.eB.length 4000 d∧((∀t∈d,t≠[])∧(b=true→L≠[]→d≠[]))∧Below w.heap.size w w'
def VR:Value→Nat
 | .slice _ n _=>n
 |_=>0
theorem kQ.MD {e:TypeId} {base g:Nat} {w w':World} {cs:List Value} (hg:w.grownBy w' (some g)) (hb:fc w g e cs) (hbase:base≤g):kQ e base w w':=
 ⟨hg.os,hg.tape,hg.output,hg.size,fun k hk h=>hg.block k hk fun e=>by cases e;exact h.elim (by omega) fun h=>h _ _ hb⟩
theorem Eg {lb size n g:Nat} {e:TypeId} {w w':World} {v:Value} {xs:List Value} (h:w.ownsRow lb e size v n xs) (hg:w.grownBy w' (some g)) (hl:g <lb):w'.ownsRow lb e size v n xs:=
 World.ownsRow.kept h hg (by
  cases hv:v.ownBlock with
  |none=>exact .inl rfl
  |some k=>exact .inr fun e=>by cases e;have:=(iB h g hv).1;omega)
theorem OL.Cx {α:Type} {lb g:Nat} {e:TypeId} {size:Nat} {O:World→List Value→α→Prop} {w w':World} {v:Value} {L:List α} (h:OL lb e size O w v L) (hg:w.grownBy w' (some g)) (hl:g <lb) (hO: ∀cs x,O w cs x→O w' cs x):OL lb e size O w' v L:=by obtain⟨css,h1,h2,h3,h4⟩:=h;exact⟨css,h1,h2,Eg h3 hg hl,fun i x cs hx hc=>hO _ _ (h4 i x cs hx hc)⟩
theorem OT.Cx {lb g:Nat} {w w':World} {v:Value} {d:Dy} (h:OT lb w v d) (hg:w.grownBy w' (some g)) (hl:g <lb):OT lb w' v d:=
 OL.Cx h hg hl fun _ _ ⟨v,e,h⟩=>⟨v,e,OL.Cx h hg hl fun _ _ h=>h⟩
theorem Gs (x:fS) (A1:Option Addr) (c1:Nat) (A2:Option Addr) (c2:Nat) (sv:Value) (L:Tr) (w:World) (hx:iz w (.agg (xC x A1 c1 A2 c2).toArray) x) (ho:eV x) (hs:RL 2 iH w sv L) (hL:L.length≤1000000):
  Calls Tryz.prog 304 #[.agg (xC x A1 c1 A2 c2).toArray,sv] w fun e w'=> ∃v,e= .returned v∧aaz x L w w' v:=by
 obtain⟨As,cs,rfl,hs1,hs2,-⟩:=fQ.open_ hs;have HX:=jA hx;have HO:=jA ho;have HS:=jA hs;clear hx ho hs;go_enter Tryz.func304,Tryz.ntmps304;go_wp2_with fail;have ha:=bL (bL (bL (bS w.heap.size w) (.cells (xC x A1 c1 A2 c2).toArray 25)) (.cells #[.slice none 0 0] 39)) (.cells #[.slice none 0 0] 39);refine(uH _ L _ (fQ.below HS.out ha (ij _)) hL).mono ?_;rintro e w1 ⟨lv,rfl,hos1,hb1⟩;have bx1:=(((fc.new w 25 (xC x A1 c1 A2 c2)).alloc (.cells #[.slice none 0 0] 39)).alloc (.cells #[.slice none 0 0] 39)).below hb1 (by simp;omega);have br1:=((fc.fW (w.alloc (.cells (xC x A1 c1 A2 c2).toArray 25)) 39 [.slice none 0 0] (g:=w.heap.size+1) (by simp)).alloc (.cells #[.slice none 0 0] 39)).below hb1 (by simp);have bd1:=(fc.fW ((w.alloc (.cells (xC x A1 c1 A2 c2).toArray 25)).alloc (.cells #[.slice none 0 0] 39)) 39 [.slice none 0 0] (g:=w.heap.size+1+1) (by simp)).below hb1 (by simp);have hb1:=ha.trans (hb1.mono (by simp;omega));have hos1:=hos1.mono (lb':=w.heap.size+3) (by simp);obtain⟨Al,cl,rfl,hcl1,hcl2⟩:=hos1.slice;have HOS1:=jA hos1;have hsz1:=bd1.lt;clear ha hos1;go_wp2_with fail;go_loopw [7] (fun lv wr=> ∃(M:Tr) (Al:Option Addr) (cl:Nat) (Ad:Option Addr) (cd:Nat) (d:Dy) (lb:Nat),lv= .slice Al M.length cl∧fc wr w.heap.size 25 (xC x A1 c1 A2 c2)∧fc wr (w.heap.size+1) 39 [.slice none 0 0]∧fc wr (w.heap.size+1+1) 39 [.slice Ad d.length cd]∧
  Hid (OS (w.heap.size+3) wr (.slice Al M.length cl) M)∧Hid (OT lb wr (.slice Ad d.length cd) d)∧w.heap.size+3≤lb∧Hid (∀g,(Value.slice Al M.length cl).ownBlock=some g→g <lb)∧M.length≤1000000∧Hid (jS x.eB.length 4000 d)∧Hid (∀t∈d,t≠[])∧Hid (M≠L→d≠[])∧Below w.heap.size w wr) (fun lv _=>VR lv)
 case atStart=>exact⟨L,Al,cl,none,0,[],w1.heap.size,rfl,bx1,br1,bd1,HOS1,jA (OT.jL _ _),by omega,jA (fun g hg=>(iB HOS1.out g hg).2),hL,jA (jS.jL _ _),jA (fun t h=>by simp at h),jA (fun h=>absurd rfl h),hb1⟩
 case round=>
  obtain⟨M,Al,cl,Ad,cd,d,lb,rfl,bx,br,bd,HOS,HOT,hlb,HGL,hM,HK,HNE,HML,hb⟩:=hrel;obtain⟨d0,d1,d2,d3,d4,d5,-⟩:=bx.iY;have e0:=bd.c 0;have lx:=bx.lt;have lr:=br.lt;have ld:=bd.lt;have fr:=br.frozen 0
  rcases kV M.length with hM0|hMp
  ·obtain rfl:=gj hM0;have e1:=br.c 0;go_wp2_with fail;refine bodyPost_ret (iw rfl _ _ (w.heap.size+1) 39 [.slice Ad d.length cd] _ (.bool true) rfl rfl (br.gH 0 _) Tryz.underlying39 rfl qw) rfl ⟨_,rfl,_,d,true,rfl,(HOT.out.fG (by show w.heap.size+1 <lb;omega) _).mono (by omega),HK.out,⟨HNE.out,fun _ h=>HML.out (jN h)⟩,hb.setCell (by show w.heap.size≤w.heap.size+1;omega) _⟩
  ·go_wp2_with fail;have hsz:=hb.size
   refine(Fq x A1 c1 A2 c2 Ad cd d 4000 _ (HX.out.below hb (ij _)) HO.out HOT.out.reads HK.out (by omega)).mono ?_;rintro e w2 ⟨onv,tw,fv,bad,lkv,ev,rfl,hlk,hown,hb2⟩;have HLK:=jA hlk;have HOWN:=jA hown;clear hlk hown d0 d1 d2 d3 d4 d5 e0 fr;go_wp2_with fail;refine(GS x A1 c1 A2 c2 Ad cd d onv tw fv bad lkv ev _ M _ (HX.out.below (hb.trans (hb2.mono hsz)) (ij _)) HO.out (HOT.out.below hb2 (ij _)).reads HK.out HLK.out (fun v hv g hg=>(HOWN.out v hv g hg).2) (HOS.out.below hb2 (ij _)).reads).mono ?_;rintro e w3 ⟨zi,rfl,hz1,hz2,hz3,hb3⟩;obtain⟨i,rfl⟩: ∃i:Nat,zi=i:=⟨zi.toNat,by have:=hz3 (by intro h;rw[h] at hMp;simp at hMp);omega⟩;have hi:i <M.length:=by omega
   have hbb:=hb2.trans (hb3.mono hb2.size);replace bx:=bx.below hbb lx;replace br:=br.below hbb lr;replace bd:=bd.below hbb ld;have HOS3:=jA (HOS.out.below hbb (ij _));have HOT3:=jA (HOT.out.below hbb (ij _));replace hb3:=hb.trans (hbb.mono hsz);have TP:=hb3.size;replace lx:=bx.lt;replace lr:=br.lt;replace ld:=bd.lt;clear HOS HOT hb2 hbb hb HLK HOWN hz1 hz2 hz3;obtain⟨⟨z,q⟩,hzq⟩:=ec hi;obtain⟨Al',cl',hv,hcl1,hcl2,hcc⟩:=fQ.open_ HOS3.out.reads;cases hv;obtain⟨g,o,rfl,hg,y0,y1⟩:=hcc i _ hzq;obtain⟨d0,d1,d2,d3,d4,d5,-⟩:=bx.iY;have e0:=bd.c 0;have HD3:=jA HOT3.out.reads;dsimp only;go_upto_region 5 with fail
   go_cut [9,10] from 21 to 30 (fun pv bv wc=> ∃g2 Ad' cd' d' b',pv= .pointer (some ⟨g2,0,none⟩)∧bv= .bool b'∧fc wc g2 39 [.slice Ad' d'.length cd']∧w3.heap.size≤g2∧Hid (OT w3.heap.size wc (.slice Ad' d'.length cd') d')∧Hid (jS x.eB.length 4000 d')∧Hid ((∀t∈d',t≠[])∧(b'=true→d'≠[]∧(d=[]→d'=[[(z,q)]])))∧Below w3.heap.size w3 wc)
   case first=>
    refine rB [] fun hS=> ?_;refine tk 0 hS ?_;refine tk 1 hS ?_;refine tk 2 hS ?_;refine tk 3 hS ?_;refine tk 4 hS ?_;refine tk 5 hS ?_;try simp only[Act.put,gK,fJ,fI]
    refine mL 6 10 rfl rfl rfl rfl (by kernel_rfl) (fun K hK=> ?_) (fun K hK=> ?_)
    ·go_simp;refine(vK x A1 c1 A2 c2 Ad cd d z q _ (HX.out.below (hb3.trans (hS.mono hb3.size)) (ij _)) HO.out (iK.below HD3.out hS (ij _)) HK.out HNE.out).mono ?_;rintro e w5 ⟨dv',d',b',rfl,hot5,hdk5,hne5,hb5⟩;obtain⟨Ad',cd',rfl,-⟩:=hot5.slice;replace hot5:=hot5.mono hS.size;have hS:=hS.trans (hb5.mono hS.size);have hw5:=hS.size;refine hK.out _ _ (hS) ?_;clear hK K;refine tk 7 hS ?_;refine tk 8 hS ?_;refine tk 9 hS ?_;refine tO 10 fun K hK=> ?_;go_simp;have b6:=fc.new w5 39 [.slice none 0 0];have h6:=hS.alloc hS.size (.cells [.slice none 0 0].toArray 39);replace hot5:=hot5.alloc (.cells [.slice none 0 0].toArray 39);have hS:=h6;refine hK.out _ _ (h6) ?_;clear hK K;refine tO 11 fun K hK=> ?_;refine gY _ 39 (.tmp 9) (.tmp 29) rfl w5.heap.size 39 [.slice none 0 0] [.slice Ad' d'.length cd'] b6 rfl rfl qw rfl rfl ?_;intro w9 b9 hg9 hz9;have hk9:=kQ.MD (base:=w3.heap.size) hg9 b6 (hw5);have hS:=hS.trans (hk9.below hS.size);refine hK.out _ _ (hS) ?_;clear hK K;refine tk 12 hS ?_;refine tD ?_;go_wp2_with fail;go_meet;exact⟨_,Ad',cd',d',b',rfl,rfl,b9,hw5,jA (hot5.keep hk9 (by decide) (by decide)),jA hdk5,jA hne5,hS⟩
    ·go_simp;have b6:=fc.new w3.drew 39 [.slice none 0 0];have h6:=hS.alloc hS.size (.cells [.slice none 0 0].toArray 39);refine hK.out _ _ (h6) ?_;clear hK K;have hS:=h6;refine tO 6 fun K hK=> ?_;go_simp;refine(vK x A1 c1 A2 c2 Ad cd d z q _ (HX.out.below (hb3.trans (hS.mono hb3.size)) (ij _)) HO.out (iK.below HD3.out hS (ij _)) HK.out HNE.out).mono ?_;rintro e w5 ⟨dv',d',b',rfl,hot5,hdk5,hne5,hb5⟩;obtain⟨Ad',cd',rfl,-⟩:=hot5.slice;replace hot5:=hot5.mono hS.size;have hS:=hS.trans (hb5.mono hS.size);have hw5:=hS.size;refine hK.out _ _ (hS) ?_;clear hK K;refine tk 7 hS ?_;refine tk 8 hS ?_;refine tk 9 hS ?_;replace b6:=b6.below hb5 b6.lt;refine tO 11 fun K hK=> ?_;refine gY _ 39 (.tmp 9) (.tmp 29) rfl w3.heap.size 39 [.slice none 0 0] [.slice Ad' d'.length cd'] b6 rfl rfl qw rfl rfl ?_;intro w9 b9 hg9 hz9;have hk9:=kQ.MD (base:=w3.heap.size) hg9 b6 (ij _);have hS:=hS.trans (hk9.below hS.size);refine hK.out _ _ (hS) ?_;clear hK K;refine tk 12 hS ?_;refine tD ?_;go_wp2_with fail;go_meet;exact⟨_,Ad',cd',d',b',rfl,rfl,b9,ij _,jA (hot5.keep hk9 (by decide) (by decide)),jA hdk5,jA hne5,hS⟩
   case rest=>
    obtain⟨g2,Ad',cd',d',b',rfl,rfl,b9,hg2,HOT',HK',HNE',hbc⟩:=hcut;replace bx:=bx.below hbc lx;replace br:=br.below hbc lr;replace bd:=bd.below hbc ld;have hosc:=HOS3.out.below hbc (ij _);have hotc:=HOT3.out.below hbc (ij _);have hbw:=hb3.trans (hbc.mono TP);have e0:=bd.c 0;have e9:=b9.c 0;have fr:=br.frozen 0;have fd:=bd.frozen 0;have hszc:=hbc.size;clear d0 d1 d2 d3 d4 d5 y0 y1 hcc;cases b'
    ·have e1:=br.c 0;have HOTc:=jA hotc;clear hosc hotc;go_wp2_with fail;refine bodyPost_ret (iw rfl _ _ (w.heap.size+1) 39 [.slice Ad d.length cd] _ (.bool false) rfl rfl (br.gH 0 _) Tryz.underlying39 rfl qw) rfl ⟨_,rfl,_,d,false,rfl,(HOTc.out.fG (by show w.heap.size+1 <lb;omega) _).mono (by omega),HK.out,⟨HNE.out,fun h=>by cases h⟩,hbw.setCell (by show w.heap.size≤w.heap.size+1;omega) _⟩
    ·have HOSc:=jA hosc;obtain⟨hgo,hge⟩:o=0∧w.heap.size+3≤g:=by
      rcases hosc.2 with ⟨h,-⟩|⟨_,_,_,h,h2,-⟩
      ·cases h
      ·cases h;exact⟨rfl,h2⟩
     subst hgo;clear hosc hotc;have hwi:IntKind.i64.wrap ((i:Int)+1)=(i:Int)+1:=by rw[jB];omega
     go_upto_region 8 with fail
     refine rG (fun wS=>wS.cell? ⟨g2,0,none⟩=some (.slice Ad' d'.length cd')) [6,7] (e9) fun hS=> ?_;refine tk 0 hS ?_;refine tk 1 hS ?_;refine tk 2 hS ?_;refine tk 3 hS ?_;refine tk 4 hS ?_;refine tO 5 fun K hK=> ?_;go_simp;refine(Qk (w.heap.size+3) wc.drew g cl M i HOSc.out hM hi).mono ?_;rintro e w5 ⟨rfl,hos5,hg5⟩;have hlen:=S6 hi;rw[←hlen] at hos5;replace bx:=bx.drew.grown (w':=w5) hg5 (by intro h;cases h;omega);replace br:=br.drew.grown (w':=w5) hg5 (by intro h;cases h;omega);replace bd:=bd.drew.grown (w':=w5) hg5 (by intro h;cases h;omega);have b95:=b9.drew.grown (w':=w5) hg5 (by intro h;cases h;omega);have hot5:=OT.Cx (w:=wc.drew) (w':=w5) HOT'.out hg5 hg;have hb5:Below w.heap.size w w5:=hbw.drew.grown hg5 (by show w.heap.size≤wc.heap.size;omega) (fun q hq=>by cases hq;omega);have HOS5:=jA hos5;have HOT5:=jA hot5;clear hos5 hot5 hg5;refine hK.out _ _ (b95.cell 0) ?_;clear hK K;refine tL 6 fun K hK=> ?_;have fd5:=bd.frozen 0;have ed5:=bd.c 0;go_simp;refine hK.out _ _ ?_;clear hK K;refine tL 7 fun K hK=> ?_;go_simp;refine hK.out _ _ ?_;clear hK K;refine tD ?_;go_wp2_with fail;rw[←hlen];refine⟨⟨M.eraseIdx i,some ⟨g,0,none⟩,cl,Ad',cd',d',w3.heap.size,rfl,bx.kj (p:=⟨w.heap.size+1+1,0,none⟩) (by show w.heap.size≠w.heap.size+1+1;omega) _,br.kj (p:=⟨w.heap.size+1+1,0,none⟩) (by show w.heap.size+1≠w.heap.size+1+1;omega) _,bd.gH 0 _,jA (HOS5.out.fG (by show w.heap.size+1+1 <w.heap.size+3;omega) _),jA (HOT5.out.fG (by show w.heap.size+1+1 <w3.heap.size;omega) _),by omega,jA (fun q hq=>by cases hq;exact hg),by omega,HK',jA HNE'.out.1,jA (fun _=>(HNE'.out.2 rfl).1),hb5.setCell (by show w.heap.size≤w.heap.size+1+1;omega) _⟩,by simp[VR];omega⟩
open Go.RowKit Go.Shelf jm ko kN J8 P15
theorem xm (xv dv:Value) (x:fS) (d:Dy) (K:Nat) (bud:Int) (w:World) (hx:iz w xv x) (ho:eV x) (hd:RL 1 jf w dv d) (hk:jS x.eB.length K d) (hK:K≤1000000) (hne: ∀t∈d,t≠[]) (hbud:bud≤9223372036854775807):
  Calls Tryz.prog 245 #[xv,.agg #[dv],.int .i64 bud] w (Mu x.eB.length K d.flatten.length w):=by
 obtain⟨A1,c1,A2,c2,rfl⟩:=hx.agg;obtain⟨Ad,cd,rfl,hd1,hd2,hdc⟩:=iK.open_ hd;have HX:=jA hx;have HO:=jA ho;have HK:=jA hk;have HNE:=jA hne;have HC:=jA hdc;have hdl:=hk.len;clear hx ho hd hk hne hdc;go_enter Tryz.func245,Tryz.ntmps245;go_wp2_with fail;go_loopw [18] (fun iv wr=> ∃(i:Nat) (ov:Value),i≤d.length∧iv= .int .i64 i∧fc wr w.heap.size 25 (xC x A1 c1 A2 c2)∧fc wr (w.heap.size+1+1) 39 [.slice none 0 0]∧fc wr (w.heap.size+1+1+1) 39 [ov]∧
  Hid (OT (w.heap.size+4) wr ov (d.take i))∧Below w.heap.size w wr∧w.heap.size+4≤wr.heap.size) (fun iv _=>d.length - (intOf iv).toNat)
 case atStart=>exact⟨0,_,eC _,rfl,(((fc.new w _ _).alloc _).alloc _).alloc _,(fc.fW _ _ _ (by simp)).alloc _,fc.fW _ _ _ (by simp),jA (OT.jL _ _),bL (bL (bL (bL (bS _ _) _) _) _) _,by simp⟩
 case round=>
  obtain⟨i,ov,hi,rfl,bx,br,bo,HOT,hb,hs⟩:=hrel;have lx:=bx.lt;have lr:=br.lt;have lo:=bo.lt;obtain⟨Ao,co,rfl,-⟩:=HOT.out.slice;by_cases hlt:i <d.length
  ·obtain⟨t,hz⟩:=ec hlt;obtain⟨bt,ot,rfl,hbt,tv,htv,y⟩:=HC.out i _ hz;obtain⟨At,ct,rfl,-⟩:=fQ.open_ htv;have hbw:=bP hbt hb.size;replace y:=a7 hb (ij _) y;have HT:=jA htv;have HSN:=jA (iC hz);have htl:=(HK.out.get hz).2;clear hz htv;obtain⟨L,hL⟩: ∃L,d.take i=L:=⟨_,rfl⟩;rw[hL] at HOT bo HSN;have hln:L.length≤1000000000:=by rw[←hL,fB];omega
   clear hL;have c3:=bo.c 0;go_upto_region 5 with fail
   have b5:=fc.new wr 44 [.slice At t.length ct];have h5:=bL (bS wr.heap.size wr) (.cells #[.slice At t.length ct] 44);have z5:wr.heap.size <(wr.alloc (.cells #[.slice At t.length ct] 44)).heap.size:=by simp
   revert b5 h5 z5;show∀(b5:fc (wr.alloc (.cells #[.slice At t.length ct] 44)) _ _ _),_;generalize wr.alloc (.cells #[.slice At t.length ct] 44)=w5;intro b5 h5 z5;have hbw5:=hb.trans (h5.mono hb.size);replace c3:=a7 h5 (ij _) c3;have z25:=Nat.lt_trans lo z5;have c5:=b5.c 0;refine rB [7,8,9] fun hS=> ?_;refine tk 0 hS ?_;refine tk 1 hS ?_;refine tk 2 hS ?_;refine tk 3 hS ?_;refine tO 4 fun K hK=> ?_;go_simp;refine(uH _ t _ (fQ.below HT.out (hbw5.trans (hS.mono hbw5.size)) (ij _)) (by omega)).mono ?_;rintro e w6 ⟨lv,rfl,hlv,hb6⟩;obtain⟨An,cn,rfl,-⟩:=hlv.slice;have hS:=hS.trans (hb6.mono hS.size);have hlv7:OS (w.heap.size+4) w6 (.slice An t.length cn) t:=hlv.mono (by show _≤w5.heap.size;omega);have h56:=h5.trans (hS.mono h5.size);have z56:=hS.size;obtain⟨css,q1,q2,q3,q4⟩:=HOT.out.below h56 (ij _);refine hK.out _ _ (hS) ?_;clear hK K;refine tk 5 hS ?_;refine tO 6 fun K hK=> ?_;go_simp;refine hK.out _ _ ((hS.alloc hS.size _)) ?_;clear hK K;refine tL 7 fun K hK=> ?_;refine ma w6 _ _ 37 rfl (w.heap.size+4) 44 _ 1 24 Tryz.underlying37 uz rfl (by decide) (by decide) _ L.length _ q3 rfl [.slice An t.length cn] _ rfl rfl rfl hln (by omega) ?_;intro g cap w7 ho7 hg7 hl7 hk7 hz7;have hot7:OT (w.heap.size+4) w7 (.slice (some ⟨g,0,none⟩) (L.length+1) cap) (L++[t]):=OL.push rfl q1 q2 rfl ho7 (fun i x cs hx hc=>lI.keep (q4 i x cs hx hc) hk7 (by decide)) ⟨_,rfl,OS.ol (hlv7.keep hk7 (by decide))⟩;refine hK.out _ _ ?_;clear hK K;refine tL 8 fun K hK=> ?_;go_simp;refine hK.out _ _ ?_;clear hK K;have hb67:=hk7.below (by omega);have bo7:=hk7.ig (bo.below h56 lo) (by decide);have br7:=hk7.ig (br.below h56 lr) (by decide);have bx7:=hk7.ig (bx.below h56 lx) (by decide);have c37:=bo7.c 0;have f37:=bo7.frozen 0;have hbel7:=(hbw5.trans (hS.mono hbw5.size)).trans (hb67.mono (by omega));rw[←HSN.out] at hot7;have HOT7:=jA hot7;clear ho7 hlv7 hlv hot7;refine tL 9 fun K hK=> ?_;go_simp;refine hK.out _ _ ?_;clear hK K;refine tD ?_;go_wp2_with fail;refine⟨⟨i+1,_,by omega,rfl,bx7.kj (p:=⟨w.heap.size+1+1+1,0,none⟩) (by show w.heap.size≠w.heap.size+1+1+1;omega) _,br7.kj (p:=⟨w.heap.size+1+1+1,0,none⟩) (by show w.heap.size+1+1≠w.heap.size+1+1+1;omega) _,bo7.gH 0 _,jA (HOT7.out.fG (by show w.heap.size+1+1+1 <w.heap.size+4;omega) _),hbel7.setCell (by show w.heap.size≤w.heap.size+1+1+1;omega) _,by simp;omega⟩,by simp[intOf];omega⟩
  ·obtain rfl:i=d.length:=by omega
   have hO:=HOT.out;rw[gh] at hO bo;have HOd:=jA hO;clear hO HOT;go_wp2_with fail;go_loopw [11] (fun iv wr=> ∃(z:Int) (An:Option Addr) (cn:Nat) (D:Dy),0≤z∧z≤max bud 0∧iv= .int .i64 z∧fc wr w.heap.size 25 (xC x A1 c1 A2 c2)∧fc wr (w.heap.size+1+1) 39 [.slice none 0 0]∧fc wr (w.heap.size+1+1+1) 39 [.slice An D.length cn]∧
    Hid (OT (w.heap.size+4) wr (.slice An D.length cn) D)∧Hid (jS x.eB.length K D)∧Hid (∀t∈D,t≠[])∧Hid (D.flatten.length=d.flatten.length)∧Below w.heap.size w wr∧w.heap.size+4≤wr.heap.size) (fun iv _=>(bud - intOf iv).toNat)
   case atStart=>exact⟨0,Ao,co,d,by omega,by omega,rfl,bx,br,bo,HOd,HK,HNE,jA rfl,hb,hs⟩
   case round=>
    clear bx br bo HOd hb lx lr lo;obtain⟨z,An,cn,D,hz0,hz1,rfl,bx,br,bo,HOT,HKD,HND,HCD,hb,hs⟩:=hrel;have lx:=bx.lt;have lr:=br.lt;have lo:=bo.lt;have c3:=bo.c 0;have fr:=br.frozen 0;have c2:=br.c 0;by_cases hlt:z <bud
    ·obtain⟨d0,d1,d2,d3,d4,d5,-⟩:=bx.iY;go_wp2_with fail;refine(Kl _ _ x D K _ (HX.out.below hb (ij _)) HO.out HOT.out.reads HKD.out hK).mono ?_;rintro e w5 ⟨k,a,b,i,j,l,s,rfl,hlk,hb5⟩;have HLK:=jA hlk;clear hlk;replace bx:=bx.below hb5 lx;replace br:=br.below hb5 lr;replace bo:=bo.below hb5 lo;replace HOT:Hid (OT (w.heap.size+4) w5 (.slice An D.length cn) D):=jA (HOT.out.below hb5 (ij _));replace hb:=hb.trans (hb5.mono hb.size);replace hs:=eZ hs hb5.size;clear c3 fr c2 d0 d1 d2 d3 d4 d5;have c3:=bo.c 0;have fr:=br.frozen 0;have c2:=br.c 0;replace lx:=bx.lt;replace lr:=br.lt;replace lo:=bo.lt;have b12:=fc.new w5 320 (qo k a b i j);have h6:=bL (bS w5.heap.size w5) (.cells (qo k a b i j).toArray 320);dsimp only;cases s
     ·go_wp2_with fail;refine bodyPost_ret (iw rfl _ _ (w.heap.size+1+1) 39 [.slice An D.length cn] _ (.int .i64 z) rfl rfl ((br.gH 0 _).alloc _) Tryz.underlying39 rfl qw) rfl ⟨_,D,z,rfl,((HOT.out.fG (q:=⟨w.heap.size+1+1,0,none⟩) (by show w.heap.size+1+1 <w.heap.size+4;omega) _).alloc _).mono (by omega),HKD.out,HND.out,by first|exact HCD.out|simpa using HCD.out,(hb.setCell (p:=⟨w.heap.size+1+1,0,none⟩) (by show w.heap.size≤w.heap.size+1+1;omega) _).alloc (by simp;omega) _⟩
     ·obtain⟨d0,d1,d2,d3,d4,d5,-⟩:=bx.iY;go_wp2_with fail;refine(Lb _ _ x D x.eB.length K k a b i j _ (HX.out.below (hb.trans (h6.mono hb.size)) (ij _)) (HOT.out.below h6 (ij _)).reads HKD.out hK).mono ?_;rintro e w7 ⟨dv',D',E,rfl,ho7,hd7,hn7,hc7,hb7⟩;have HC7:Hid (D'.flatten.length=d.flatten.length):=jA ((hc7 (by first|exact HLK.out rfl|exact HLK.out trivial)).trans HCD.out);clear hc7;obtain⟨A7,c7,rfl,-⟩:=ho7.slice;have h67:=h6.trans (hb7.mono h6.size);have bo7:=bo.below h67 lo;have f37:=bo7.frozen 0;have c37:=bo7.c 0;have hs6:=h6.size;have hw:wrap64 (z+1)=z+1:=qO _ (by omega);have hs7:=h67.size;go_wp2_with fail;refine⟨⟨z+1,A7,c7,D',by omega,by omega,rfl,(bx.below h67 lx).kj (p:=⟨w.heap.size+1+1+1,0,none⟩) (by show w.heap.size≠w.heap.size+1+1+1;omega) _,(br.below h67 lr).kj (p:=⟨w.heap.size+1+1+1,0,none⟩) (by show w.heap.size+1+1≠w.heap.size+1+1+1;omega) _,bo7.gH 0 _,
       jA ((ho7.mono (eZ hs hs6)).fG (by show w.heap.size+1+1+1 <w.heap.size+4;omega) _),jA hd7,jA hn7,HC7,(hb.trans (h67.mono hb.size)).setCell (by show w.heap.size≤w.heap.size+1+1+1;omega) _,by simp;omega⟩,by simp[intOf];omega⟩
    ·go_wp2_with fail;refine bodyPost_ret (iw rfl _ _ (w.heap.size+1+1) 39 [.slice An D.length cn] _ (.int .i64 (max bud 0)) rfl rfl (br.gH 0 _) Tryz.underlying39 rfl qw) rfl ⟨_,D,_,rfl,(HOT.out.fG (by show w.heap.size+1+1 <w.heap.size+4;omega) _).mono (by omega),HKD.out,HND.out,by first|exact HCD.out|simpa using HCD.out,hb.setCell (by show w.heap.size≤w.heap.size+1+1;omega) _⟩
open Go.RowKit jm ko kN P15
inductive Te (x:fS) (l:Tr) (w:World) (e:Ending) (w':World):Prop
 |mk (z:Int) (he:e=.returned (.int .i64 z)) (hi:(0<=z/\z<=18)/\(l.length<=1->(∀s∈l,GoT x [s])->z=0)) (h:z=0->jK x.eB l/\(l.map Prod.fst).Nodup) (hb:Below w w w')
def KC (x:fS) (A1:Option Addr) (c1:Nat) (A2:Option Addr) (c2:Nat) (sv:Value) (l:Tr) (w:World) (hx:iz w (.agg (xC x A1 c1 A2 c2).toArray) x) (Z:eV x) (P:RL 2 iH w sv l) (Y:l.length<=1000000):
  Calls prog 274 #[.agg (xC x A1 c1 A2 c2).toArray,sv] w (Te x l w):=by
 obtain⟨A,c,rfl,-,-,X⟩:=fQ.open_ P;obtain⟨HX,HO,HS,HC⟩:=Zd hx Z P X;clear hx Z P X;go_enter func274,ntmps274;go_wp2_with fail;have J:=bL (bS w w) (cB 25 (xC x A1 c1 A2 c2));go_loopw [10] (fun T wr=> ∃i:Nat,i<=l/\T=.int .i64 i/\fc wr w 25 (xC x A1 c1 A2 c2)/\Hid (jK x.eB (l.take i))/\Below w w wr) (fun T _=>l.length-(intOf T).toNat)
 case atStart=>exact⟨0,eC _,rfl,fc.new w _ _,(jK.jL _),J⟩
 case round=>
  obtain⟨i,hi,rfl,W,U,n⟩:=hrel;have lx:=W.lt;have C:=n.size;by_cases B:i<l
  ·obtain⟨⟨z,q⟩,S⟩:=ec B;obtain⟨b,o,rfl,aa,y0,y1⟩:=HC i _ S;replace y0:=a7 n lE y0;replace y1:=a7 n lE y1;have V:=zH S;clear S;go_upto_region 4 with fail
   have p:=fc.new wr 84 [z,q];have a:=W.alloc (cB 84 [z,q]);have f:=n.alloc C (cB 84 [z,q]);revert p a f;show∀(p:fc (wr.alloc (cB 84 [z,q])) _ _ _),_;generalize wr.alloc (cB 84 [z,q])=w4;intro p a f;have ls:=p.lt;have Q:=f.size;have af:=a.lt;obtain⟨d0,d1,d2,d3,d4,d5,-⟩:=a.iY;obtain⟨q0,q1,-⟩:=p.iY;refine rB [] fun hS=>?_;refine kL [0,1] ?_;refine tO 2 fun K I=>?_;go_simp;refine(re z q _).mono ?_;rintro e w5 ⟨tv,rfl,j,M⟩;have d:=hS.trans (M.mono hS.size);have F:=zH j;obtain⟨At,ct,rfl,-⟩:=j.slice;clear j;refine I _ _ (d) ?_;refine tO 3 fun K I=>?_;go_simp;have m:=f.trans (d.mono Q);refine(uu _ _ x [(z,q)] _ (HX.below m lE) HO F.reads sI).mono ?_;rintro e w6 ⟨r,rfl,⟨O,hr,y⟩,g⟩;have E:=zH y;clear y;have D:=m.trans (g.mono m.size);have G:=a.below (d.trans (g.mono d.size)) a.lt;have s:=d.trans (g.mono d.size);have HR:=zH hr;clear hr;refine I _ _ (s) ?_;have hS:=s;refine kL [4] ?_;refine tD ?_;by_cases k:r=0
   ·subst k;go_wp2_with fail;go_roundw
    case rel=>exact⟨i+1,B,by go_num,G,zH (by rw[gk,V.out];exact U.append (jK.one ((HR dE).1 _ (.head _)))),D⟩
    case measure=>exact mI
   ·have ae:(r !=0)=true:=by simpa using k
    have N: ¬r=0:=k;go_wp2_with fail;go_ret;exact⟨r,rfl,⟨O,fun _ h=>E (h _ (a8 V))⟩,fun h=>absurd h N,D⟩
  ·obtain rfl:i=l.length:=oG;go_wp2_with fail;refine(vi _ l _ (fQ.below HS n lE) Y).mono ?_;rintro e w2 ⟨v,rfl,R,t⟩;have HV:=zH R;obtain⟨Av,cv,rfl,-⟩:=R.slice;clear R;go_wp2_with fail;refine(yJ _ _ _ HV.reads (by rw[oq,fm];exact Y)).mono ?_;rintro e w3 ⟨b,rfl,h,H,L⟩;have HH:=zH h;rw[oq,fm] at H;have H1:=zH H;have u:=n.trans ((t.trans (L.mono t.size)).mono C);clear h H;cases b
   ·go_wp2_with fail;go_ret
    exact⟨0,rfl,⟨oG,fun _ _=>rfl⟩,fun _=>⟨by have:=U.out;rwa [fj lE] at this,(yi _).nodup_iff.1 (IV (uU _) (HH.out (by trivial)))⟩,u⟩
   ·go_wp2_with fail;go_ret
    exact⟨11,rfl,⟨oG,fun h _=>by cases H1 h⟩,fun h=>by simp at h,u⟩
open Go.RowKit jm ko Et kN
structure PO (x:fS) (p:Pl):Prop where
 len:(p.length:Int)=x.days
 Sq: ∀(k:Nat) (cu:kc),x.eB[k]? =some cu->cu.kind=2->pX cu.jU cu.size cu.start (Qd x p k)=0
structure POk (x:fS) (p:Pl):Prop where
 len:(p.length:Int)=x.days
 day: ∀d∈p,GoD x d
 cu: ∀(k:Nat) (cu:kc),x.eB[k]? =some cu->cu.lR≠1/\pX cu.jU cu.size cu.start (Qd x p k)=0
def RY {x:fS} (U:eV x) (A: ∀c∈x.eB,c.kind=2) (v dv:Value) (p:Pl) (w:World) (h:tj x.eB w dv p) (hr:iz w v x):
  Calls prog 52 #[v,.agg #[dv]] w fun e w'=> ∃z:Int,e=.returned z/\((z=0->PO x p)/\(POk x p->z=0))/\Below w w w':=by
 have hh:=U.head;obtain⟨A1,c1,A2,c2,rfl⟩:=hr.agg;obtain⟨X,HR⟩:=Zb h hr;obtain⟨Q,R,rfl,g1,g2,S⟩:=jP.open_ h.rd;have HC:=zH S;have ak:=h.len;have F:=bL (bL (bS w w) (cB 25 (xC x A1 c1 A2 c2))) (cB 30 [.slice Q p R]);have d:=(fc.new w 25 (xC x A1 c1 A2 c2)).alloc (cB 30 [.slice Q p R]);have j:=fc.fW (w.alloc (cB 25 (xC x A1 c1 A2 c2))) 30 [.slice Q p R] (g:=w.heap.size+1) sI;clear h hr S;go_enter func52,ntmps52;go_wp2_with fail;refine(MR _ x _ (iz.below HR F lE) U.wf oG).mono ?_;rintro e w1 ⟨rfl,u⟩;have f:=F.trans (u.mono sO);replace d:=d.below u sO;replace j:=j.below u sI;obtain⟨E,hE⟩:=nR (Od x);rw[hE];have HE:Hid (E=0):=zH (by rw[<-hE];exact Rx U.may);have aa:=zH A;clear hE F u A;obtain⟨J,K,L,M,N,O⟩:=d.jI;have p0:=j.c 0;by_cases t:E=0
 ·have ai:(E !=0)=false:=by simp[t]
  by_cases s:(p.length:Int)=x.days
  ·have aj:((p.length:Int) !=x.days)=false:=by simp[s]
   have af:=zH s;clear s t;go_wp2_with fail;go_loopw [22] (fun I wr=> ∃i:Nat,i<=p/\I=.int .i64 i/\fc wr w 25 (xC x A1 c1 A2 c2)/\fc wr (w+1) 30 [.slice Q p R]/\Below w w wr) (fun I _=>p.length-(intOf I).toNat)
   case atStart=>exact⟨0,eC _,rfl,d,j,f⟩
   case round=>
    clear d j f J K L M N O p0;obtain⟨i,hi,rfl,d,j,f⟩:=hrel;obtain⟨J,K,L,M,N,O⟩:=d.jI;have l1:=d.lt;have l2:=j.lt;by_cases r:i<p
    ·obtain⟨D,y⟩:=ec r;obtain⟨b,o,rfl,al,tv,G,y0⟩:=HC i D y;obtain⟨Z,ct,rfl,-⟩:=iK.open_ G;replace y0:=a7 f lE y0;obtain⟨Y,HD,ae⟩:=Zc G (X.dy D (a8 y)) (a8 y);clear y G;have n:=bL f (cB 39 [.slice Z D ct]);go_wp2_with fail;refine(zY _ _ x D 4000 _ (iz.below HR n lE) U (iK.below Y n lE) HD oG).mono ?_;rintro e w3 ⟨z,rfl,⟨-,W⟩,a⟩;have ah:=zH W;clear W;have q:=n.trans (a.mono n.size);have C:=(d.alloc (cB 39 [.slice Z D ct])).below a sO;have B:=(j.alloc (cB 39 [.slice Z D ct])).below a sO;clear a n J K L M N O y0;by_cases l:z=0
     ·have H:(z !=0)=false:=by simp[l]
      clear l;go_wp2_with fail;go_roundw
      case rel=>exact⟨i+1,r,by go_num,C,B,q⟩
      case measure=>exact mI
     ·have H:(z !=0)=true:=by simp[l]
      go_wp2_with fail;go_ret
      exact⟨z,rfl,⟨fun h=>absurd h l,fun g=>absurd (ah (g.day D ae)) l⟩,q⟩
    ·obtain rfl:i=p.length:=oG;go_wp2_with fail;go_loopw [36] (fun I wr=> ∃i:Nat,i<=x.eB/\I=.int .i64 i/\Hid (∀(k:Nat) (cu:kc),k<i->x.eB[k]? =some cu->cu.kind=2->pX cu.jU cu.size cu.start (Qd x p k)=0)/\fc wr w 25 (xC x A1 c1 A2 c2)/\fc wr (w+1) 30 [.slice Q p R]/\Below w w wr) (fun I _=>x.eB.length-(intOf I).toNat)
     case atStart=>exact⟨0,eC _,rfl,fun k cu h=>oG,d,j,f⟩
     case round=>
      clear d j f J K L M N O;obtain⟨i,hi,rfl,Y,d,j,f⟩:=hrel;obtain⟨J,K,L,M,N,O⟩:=d.jI;have p0:=j.c 0;have l1:=d.lt;have l2:=j.lt;by_cases r:i<x.eB
      ·obtain⟨cu,T⟩:=ec r;have m:=zH T;clear T;go_wp2_with fail;refine(F2 U A1 c1 A2 c2 _ p i cu wr ⟨jP.below X.rd f lE,X.len,X.dy⟩ m (iz.below HR f lE) (aa _ (a8 m))).mono ?_;rintro e w3 ⟨z,rfl,V,a⟩;have q:=f.trans (a.mono f.size);have C:=d.below a l1;have B:=j.below a l2;have HZ:=zH V;clear a J K L M N O p0 V;by_cases l:z=0
       ·have H:(z !=0)=false:=by simp[l]
        have ag:Hid (∀(k:Nat) (cu:kc),k<i+1->x.eB[k]? =some cu->cu.kind=2->pX cu.jU cu.size cu.start (Qd x p k)=0):=zH fun k c P S h2=>by
         rcases Nat.lt_succ_iff_lt_or_eq.1 P with P|rfl
         ·exact Y k c P S h2
         ·have:=m.out;rw[S] at this;cases this;exact HZ.out.1 l
        clear l;go_wp2_with fail;go_roundw
        case rel=>exact⟨i+1,r,by go_num,ag,C,B,q⟩
        case measure=>exact mI
       ·have H:(z !=0)=true:=by simp[l]
        go_wp2_with fail;go_ret
        exact⟨z,rfl,⟨fun h=>absurd h l,fun g=>absurd ((HZ.2 (g.cu i cu m).1).trans (g.cu i cu m).2) l⟩,q⟩
      ·go_wp2_with fail;go_ret
       exact⟨0,rfl,⟨fun _=>⟨af,fun k cu P=>Y k cu (by have:=(bX.1 P).1;omega) P⟩,fun _=>rfl⟩,f⟩
  ·have aj:((p.length:Int) !=x.days)=true:=by simp[s]
   go_wp2_with fail;go_ret
   exact⟨1,rfl,⟨fun h=>oG,fun g=>absurd g.len s⟩,f⟩
 ·have ai:(E !=0)=true:=by simp[t]
  go_wp2_with fail;go_ret
  exact⟨3,rfl,⟨fun h=>oG,fun _=>absurd HE t⟩,f⟩
end
end Go.Proofs.YtgimnjldndkalaaGreatDoor
