/- Of the proof of TopGreat: A loop over an iterator that has memory of its own: what the iterator owns (O), what it hands out, the law. -/
import Derived.RangeFuncBound
import Derived.RangeFuncNested
import Derived.Test.YtgimnjldndkalaaGreatDoorF4
set_option linter.all false
set_option maxRecDepth 100000
namespace Go.Proofs.YtgimnjldndkalaaGreatDoor
variable {lb:Array Value} {P:Program}
section
open Go Go.RowKit
variable {A B:World} {E:(Nat->Prop)->World->Prop} {O:Nat->Prop} {c g:Nat}
def fX (w:World) (g i:Nat) (u:Value) (k:Nat) (h:k≠g):(w.setCell (pA g i) u).heap[k]? =w.heap[k]? :=by simp only[World.setCell,jc];rw[if_neg oG]
structure gI (O:Nat->Prop) (A B:World):Prop where
 os:B.os=A.os
 tape:B.tape=A.tape
 output:B.output=A.output
 size:A.heap.size<=B
 block: ∀k,k<A.heap.size-> ¬O k->B.heap[k]? =A.heap[k]?
def gI.ke (h:Below A A B):gI O A B:=⟨h.os,h.tape,h.output,h.size,fun k y _=>h.block k y⟩
def gI.refl (O:Nat->Prop) (A:World):gI O A A:=⟨rfl,rfl,rfl,lE,fun _ _ _=>rfl⟩
def gI.trans {C:World} (h:gI O A B) (k:gI (fun b=>O b\/A.heap.size<=b) B C):gI O A C:=
 ⟨k.os.trans h.os,k.tape.trans h.tape,k.output.trans h.output,eZ h.size k.size,fun b a d=>(k.block b (bP a h.size) (fun c=>c.elim d oG)).trans (h.block b a d)⟩
def gI.mono {f:Nat->Prop} (h:gI O A B) (d: ∀k,O k->f k):gI f A B:=⟨h.os,h.tape,h.output,h.size,fun b a j=>h.block b a fun c=>j (d b c)⟩
def gI.set (A:World) (hg:O g) (i:Nat) (u:Value):gI O A (A.setCell (pA g i) u):=
 ⟨rfl,rfl,rfl,by simp,fun k _ j=>fX A g i u k fun e=>j (e▸hg)⟩
def gI.alloc (O:Nat->Prop) (A:World) (o:Obj):gI O A (A.alloc o):=.ke ((bS _ A).alloc lE o)
def gI.drewN (O:Nat->Prop) (A:World) (n:Nat):gI O A (A.drewN n):=⟨rfl,rfl,rfl,lE,fun _ _ _=>rfl⟩
abbrev Jt:=Nat->(Nat->Prop)->World->Prop
def Ms (J:Jt):Prop:= ∀s O f A B,J s O A->gI O A B->(∀k,f k->(O k\/A.heap.size<=k)/\k<B.heap.size)->J s f B
abbrev Vi:=Nat->(Nat->Prop)->World->Array Value->Prop
variable {o:Vi}
def Kg (P:Program) (l c:Nat) (o:Vi) (J:Jt):Prop:=
 ∀m s O x W,J s O W->o s O W x->YieldAt Fence.wide m P l x W fun e b=>e=.returned true/\J (s+1) O b/\Below c W b/\ ∀k,O k->b.heap[k]? =W.heap[k]?
def zO (P:Program) (g:Nat) (lb:Array Value) (c:Nat) (o:Vi) (E:(Nat->Prop)->World->Prop):Prop:=
 ∀(n l:Nat) (J:Jt) (O:Nat->Prop) (W:World),1<=n->E O W->Ms J->Kg P l c o J->J 0 O W->
  CallsIn Fence.wide n P g (#[.func (.yield l) #[] #[]]++lb) W fun e b=>(∃v,e=.returned v)/\ ∃s f,J s f b
def ac5 (F:Nat->Prop) (P:Program) (g:Nat) (lb:Array Value) (c:Nat) (o:Vi) (E:(Nat->Prop)->World->Prop):Prop:=
 ∀(n l:Nat) (J:Jt) (O:Nat->Prop) (W:World),1<=n->E O W->Ms J->Kg P l c o J->J 0 O W->
  CallsIn Fence.wide n P g (#[.func (.yield l) #[] #[]]++lb) W fun e b=>(∃v,e=.returned v)/\ ∃s f,J s f b/\F s
def zO.f (h:zO P g lb c o E):ac5 (fun _=>True) P g lb c o E:=
 fun n l J O W h1 h2 h3 a b=>(h n l J O W h1 h2 h3 a b).mono fun _ _ ⟨h,s,f,C⟩=>⟨h,s,f,C,trivial⟩
def rR (B:Nat) (I:World->Prop):Prop:= ∀A C row,I A->A.grownBy C row->(∀r,row=some r->B<=r/\ ∃o:Obj,A.heap[r]? =some o/\o.isCells=false)->I C
structure ju (B n0:Nat) (O:Nat->Prop) (W W':World):Prop where
 kf:KeepsFrom B W W'
 bl:Below n0 W W'
 ok: ∀k,O k->W'.heap[k]? =W.heap[k]?
def ju.refl (B c:Nat) (O:Nat->Prop) (W:World):ju B c O W W:=⟨KeepsFrom.refl _ _,bS _ _,fun _ _=>rfl⟩
def ju.trans {B:Nat} {X Y Z:World} (h:ju B c O X Y) (k:ju B c O Y Z):ju B c O X Z:=⟨h.kf.trans k.kf,h.bl.trans k.bl,fun b a=>(k.ok b a).trans (h.ok b a)⟩
def rR.putObj {B:Nat} {I:World->Prop} (h:rR B I) {W:World} {l:Nat} {o:Obj} (o':Obj) (hs:I W) (a:B<=l) (L:W.heap[l]? =some o) (d:o.isCells=false):I (W.putObj l o'):=
 h W _ (some l) hs (grownBy_putObj' W l o') fun r e=>by cases e;exact⟨a,o,L,d⟩
def adO {F:Nat->Prop} {n:Nat} {g:Operand} {ps:Array Tmp} {assign body:Code} {Q:Exit->Act->World->Prop} {a:Act} {w:World}
  (h2:2<=n) {gf:Nat} (hg:a.eval g=.func (.func gf) #[] lb) (eg: ∀args w,(callFunc gf args).run P w=.ok (.enter gf args) w)
  (ag:ac5 F P gf lb c o E) (ay:c<=w) (au: ∀s O W x,o s O W x->x.size=ps.size)
  (I:Jt) (hI:Ms I) (N: ∀s O,rR w (I s O)) (Z:Nat->Prop) (ai: ∀k,Z k->k<w.heap.size) (aj: ∀W,w.grownBy W none->E Z W) (h0:I 0 Z w)
  (Ax:Nat->(Nat->Prop)->Array Value->Act->World->Prop) (ah: ∀s O x z,rR w (Ax s O x z))
  (u: ∀(m l s:Nat) (O:Nat->Prop) (x:Array Value) (W:World) (K:Act->World->Prop),I s O W->o s O W x->(∀k,O k->k<W.heap.size)->w.heap.size<=W->(∀z b,ju w c O W b->Ax s O x z b->K z b)->
   assign.wpIn (Fence.wide.inRound l) m P (Exit.then K (fun _ _ _=>False)) {tmps:=(ps.zip x).foldl (fun t (p,v)=>t.setIfInBounds p v) a.tmps,defers:=[]} W)
  (S: ∀(m l s:Nat) (O:Nat->Prop) (x:Array Value) (z:Act) (W:World),w.heap.size<=l->(∃r,W.heap[l]? =some (.loop r))->(∀k,O k->k<W.heap.size)->w.heap.size<=W->Ax s O x z W->
   body.wpIn (Fence.wide.inRound l) m P (fun e _ b=>e=.normal/\ju w c O W b/\I (s+1) O b) z W)
  (T: ∀(D s:Nat) (O:Nat->Prop) (W:World),w.heap.size<=D->I s O W->W.heap[D]? =some (.deferred (some []))->F s->Q .normal {a with defers:={target:=.collected D,args:= #[]}::a.defers} W):
  (Code.rangeFunc g ps assign body).wpIn Fence.wide n P Q a w:=by
 refine wpIn_rangeFunc fun fn al=>?_;obtain⟨R,H⟩: ∃R:LoopState->Loop,R=fun st=>{state:=st,pending:=none,fn,tmps:=a.tmps,params:=ps,assign,body,defers:=w.heap.size}:=⟨_,rfl⟩;obtain⟨V,hV⟩:=nR ((w.alloc (.deferred (some []))).alloc (.loop (R .ready)));have vL:V.heap[w.heap.size+1]? =some (.loop (R .ready)):=by rw[<-hV];have:=World.alloc_heap_new (w.alloc (.deferred (some []))) (.loop (R .ready));rwa [lz] at this
 have vD:V.heap[w.heap.size]? =some (.deferred (some [])):=by rw[<-hV];exact(sV _ _ _ sI).trans (World.alloc_heap_new w _)
 have U:w.grownBy V none:=by rw[<-hV];exact(rN w _ none).trans (rN _ _ none)
 have vI:I 0 Z V:=N 0 Z w V none h0 U fun r e=>by cases e
 refine⟨w.heap.size+1,[{target:=.collected w,args:= #[]}],V,{target:=.fn (.func gf) lb,args:= #[.func (.yield (w+1)) #[] #[]]},V,gf,
  #[.func (.yield (w+1)) #[] #[]]++lb,V,?_,?_,fun f' aw=>?_,?_,fun _=>oG,?_⟩
 ·rw[<-hV,H];exact run_enterLoop_outer _ _ _ _ _
 ·simp only[resolve,hg];simp[go_sem]
 ·trivial
 ·simp[invoke,go_sem,eg]
 obtain⟨J,q⟩: ∃J:Jt,J=fun s O W=>I s O W/\(∀k,O k->k<W.heap.size/\k≠w.heap.size/\k≠w.heap.size+1)/\W.heap[w.heap.size+1]? =some (.loop (R .ready))/\W.heap[w.heap.size]? =some (.deferred (some [])):=⟨_,rfl⟩;have hJ:Ms J:=fun s O f A B C hs d=>by
  rw[q] at C|-
  obtain⟨j1,j2,j3,j4⟩:=C;have l3:=(aah.1 j3).1;have l4:=(aah.1 j4).1;refine⟨hI s O f A B j1 hs d,fun k y=>⟨(d k y).2,?_⟩,(hs.block _ l3 fun h=>(j2 _ h).2.2 rfl).trans j3,(hs.block _ l4 fun h=>(j2 _ h).2.1 rfl).trans j4⟩
  rcases (d k y).1 with h|h
  ·exact(j2 k h).2
  ·omega
 refine(ag (n-1) (w+1) J Z V oG (aj V U) hJ (fun m s O x W C hx=>?_) (by rw[q];exact⟨vI,fun k y=>by have:=ai k y;have:=U.size;omega,vL,vD⟩)).mono ?_
 ·rw[q] at C;obtain⟨hi,d,L,y⟩:=C;have ax:=(aah.1 L).1;have hy:=run_yield (P:=P) (args:=x) L (by rw[H];exact au _ _ _ _ hx);rw[H] at hy;refine⟨fn,_,assign,body,hy,roundIn_of_wpIn al (u _ _ s O x W _ hi hx (fun k h=>(d k h).1) oG fun z Wa j ak=>?_)⟩;clear hy;have X:=j.kf.same _ _ oG L rfl;have ao:=j.kf.same _ _ lE y rfl;have ae:=(aah.1 X).1;refine⟨_,run_beginRound X (by rw[H]),?_⟩;have aa:(Wa.putObj (w+1) (.loop {R .ready with state:=.busy})).heap[w.heap.size+1]? =some (.loop {R .ready with state:=.busy}):=World.putObj_heap_same ae;have aq:(Wa.putObj (w+1) (.loop {R .ready with state:=.busy})).heap[w.heap.size]? =some (.deferred (some [])):=(World.putObj_heap_other oG).trans ao;have M: ∀(W:World) (o':Obj),Below c W (W.putObj (w+1) o')/\ ∀k,O k->(W.putObj (w+1) o').heap[k]? =W.heap[k]? :=fun W o'=>
   ⟨⟨rfl,rfl,rfl,by simp,fun k y=>World.putObj_heap_other oG⟩,fun k h=>World.putObj_heap_other (fun e=>(d k h).2.2 oG)⟩
  refine wpIn_mono (S _ _ s O x z _ oG ⟨_,aa⟩ (fun k h=>by have:=(d k h).1;have:=j.bl.size;simp;omega) sO ((ah s O x z).putObj _ ak oG X rfl)) ?_;rintro e a3 W3 ⟨rfl,i,an⟩;have G:=i.kf.same _ _ oG aa rfl;have ar:=i.kf.same _ _ lE aq rfl;have af:=(aah.1 G).1;have hr:=run_endRound (P:=P) none G;have hp:=M Wa (.loop {R .ready with state:=.busy});have Y:=M W3 (.loop (R .ready));have az:W.heap.size<=W3.heap.size:=by have h1:=j.bl.size;have h3:=i.bl.size;simp at h3;omega
  rw[H] at hr G Y hp i;refine⟨_,_,hr,rfl,?_,j.bl.trans (hp.1.trans (i.bl.trans Y.1)),fun k h=>(Y.2 k h).trans ((i.ok k h).trans ((hp.2 k h).trans (j.ok k h)))⟩;rw[q];refine⟨(N _ _).putObj _ an oG G rfl,fun k h=>⟨?_,(d k h).2⟩,?_,(World.putObj_heap_other oG).trans ar⟩
  ·have:=(d k h).1;simp;omega
  ·rw[H];exact World.putObj_heap_same af
 ·rintro e W2 ⟨⟨v,rfl⟩,s,f,C,hF⟩;rw[q] at C;obtain⟨hi,d,L,y⟩:=C;exact⟨none,_,by have:=run_endLoop (P:=P) L (by rw[H];simp);rw[H] at this;exact this,T _ s f _ lE ((N _ _).putObj _ hi oG L rfl) ((World.putObj_heap_other oG).trans y) hF⟩
end
section
open Go Go.RowKit
variable {B gf j n:Nat} {N:Array Tmp} {Q:Exit->Act->World->Prop} {S:(Nat->Prop)->World->Prop} {a:Act} {assign body:Code} {g:Operand} {w:World} {y:Vi}
def rR.ig (g:Nat) (t:TypeId) (b:List Value):rR B (fun W=>fc W g t b):=fun A C row h f u=>by have a:=h.lt;refine(f.block g a fun e=>?_).trans h;obtain⟨-,o,R,c⟩:=u g e.symm;unfold fc at h;rw[h] at R;cases R;cases c
def rR.and {I J:World->Prop} (T:rR B I) (U:rR B J):rR B (fun W=>I W/\J W):=fun A C row h f u=>⟨T A C row h.1 f u,U A C row h.2 f u⟩
def rR.size (B n:Nat):rR B (fun W=>n<=W):=fun _ _ _ h f _=>eZ h f.size
def rR.below {a:World} (c:n<=B) (b:n<=a):rR B (fun W=>Below n a W):=fun A C row h f u=>
 h.grown f (eZ b h.size) (fun r e=>by have:=(u r e).1;omega)
def Xu (B:Nat) (W b:World):Prop:= ∀J:World->Prop,rR B J->J W->J b
def Sg {F:Nat->Prop}
  (B:2<=n) (f:a.eval g=.func (.func gf) #[] lb) (V: ∀args w,(callFunc gf args).run P w=.ok (.enter gf args) w)
  (i:ac5 F P gf lb j y S) (L:j<=w) (M: ∀s O W x,y s O W x->x.size=N.size)
  (I:Jt) (T:Ms I) (E: ∀s O,rR w (I s O)) (o:Nat->Prop) (G: ∀k,o k->k<w.heap.size) (H: ∀W,w.grownBy W none->S o W) (X:I 0 o w)
  (c: ∀(m l s:Nat) (O:Nat->Prop) (x:Array Value) (W:World) (K:Act->World->Prop),I s O W->y s O W x->(∀k,O k->k<W.heap.size)->w.heap.size<=W->
   RowKit.Hid (∀q z,ju w j O W z->
    (∀(m l:Nat) (b:World),(∀k,O k->k<b.heap.size)->w.heap.size<=b->Xu w z b->
     body.wpIn (Fence.wide.inRound l) m P (fun e _ r=>e=.normal/\ju w j O b r/\I (s+1) O r) q b)->K q z)->
   assign.wpIn (Fence.wide.inRound l) m P (Exit.then K (fun _ _ _=>False)) {tmps:=(N.zip x).foldl (fun t (p,v)=>t.setIfInBounds p v) a.tmps,defers:=[]} W)
  (d: ∀(D s:Nat) (O:Nat->Prop) (W:World),w.heap.size<=D->I s O W->W.heap[D]? =some (.deferred (some []))->F s->Q .normal {a with defers:={target:=.collected D,args:= #[]}::a.defers} W):
  (Code.rangeFunc g N assign body).wpIn Fence.wide n P Q a w:=
 adO B f V i L M I T E o G H X
  (fun s O x q W=> ∀(m l:Nat) (b:World),(∀k,O k->k<b.heap.size)->w.heap.size<=b->Xu w W b->
   body.wpIn (Fence.wide.inRound l) m P (fun e _ r=>e=.normal/\ju w j O b r/\I (s+1) O r) q b)
  (fun s O x q A C row h f u m l b Y B Z=>h m l b Y B fun J U hA=>Z J U (U A C row hA f u))
  (fun m l s O x W K hi hx R hs hk=>c m l s O x W K hi hx R hs hk)
  (fun m l s O x q W _ _ R hs h=>h m l W R hs fun _ _ h=>h)
  d
def qL
  (B:2<=n) (f:a.eval g=.func (.func gf) #[] lb) (V: ∀args w,(callFunc gf args).run P w=.ok (.enter gf args) w)
  (i:zO P gf lb j y S) (L:j<=w) (M: ∀s O W x,y s O W x->x.size=N.size)
  (I:Jt) (T:Ms I) (E: ∀s O,rR w (I s O)) (o:Nat->Prop) (G: ∀k,o k->k<w.heap.size) (H: ∀W,w.grownBy W none->S o W) (X:I 0 o w)
  (c: ∀(m l s:Nat) (O:Nat->Prop) (x:Array Value) (W:World) (K:Act->World->Prop),I s O W->y s O W x->(∀k,O k->k<W.heap.size)->w.heap.size<=W->
   RowKit.Hid (∀q z,ju w j O W z->
    (∀(m l:Nat) (b:World),(∀k,O k->k<b.heap.size)->w.heap.size<=b->Xu w z b->
     body.wpIn (Fence.wide.inRound l) m P (fun e _ r=>e=.normal/\ju w j O b r/\I (s+1) O r) q b)->K q z)->
   assign.wpIn (Fence.wide.inRound l) m P (Exit.then K (fun _ _ _=>False)) {tmps:=(N.zip x).foldl (fun t (p,v)=>t.setIfInBounds p v) a.tmps,defers:=[]} W)
  (d: ∀(D s:Nat) (O:Nat->Prop) (W:World),w.heap.size<=D->I s O W->W.heap[D]? =some (.deferred (some []))->Q .normal {a with defers:={target:=.collected D,args:= #[]}::a.defers} W):
  (Code.rangeFunc g N assign body).wpIn Fence.wide n P Q a w:=
 Sg B f V i.f L M I T E o G H X c fun D s O W Y B Z _=>d D s O W Y B Z
end
end Go.Proofs.YtgimnjldndkalaaGreatDoor
