/- Of the proof of TopCosts: A loop over an iterator that has memory of its own: what the iterator owns (O), what it hands out, the law. -/
import Derived.RangeFuncBound
import Derived.RangeFuncNested
import Derived.Test.YtgimnjldndkalaaGreatDoorF4
set_option linter.all false
set_option maxRecDepth 100000
namespace Go.Proofs.YtgimnjldndkalaaGreatDoor
section
open Go Go.RowKit
variable {A B:World} {O:Nat->Prop} {d:Nat}
def fX (w:World) (g i:Nat) (u:Value) (k:Nat) (h:k≠g):(w.setCell (pA g i) u).heap[k]? =w.heap[k]? :=by simp only[World.setCell,jc];rw[if_neg oG]
structure gI (O:Nat->Prop) (A B:World):Prop where
 os:B.os=A.os
 tape:B.tape=A.tape
 output:B.output=A.output
 size:A.heap.size<=B
 block: ∀k,k<A.heap.size-> ¬O k->B.heap[k]? =A.heap[k]?
def gI.ke (h:Below A A B):gI O A B:=⟨h.os,h.tape,h.output,h.size,fun k u _=>h.block k u⟩
def gI.refl (O:Nat->Prop) (A:World):gI O A A:=⟨rfl,rfl,rfl,lE,fun _ _ _=>rfl⟩
def gI.trans {C:World} (h:gI O A B) (k:gI (fun b=>O b\/A.heap.size<=b) B C):gI O A C:=
 ⟨k.os.trans h.os,k.tape.trans h.tape,k.output.trans h.output,eZ h.size k.size,fun b a c=>(k.block b (bP a h.size) (fun d=>d.elim c oG)).trans (h.block b a c)⟩
def gI.mono {j:Nat->Prop} (h:gI O A B) (c: ∀k,O k->j k):gI j A B:=⟨h.os,h.tape,h.output,h.size,fun b a f=>h.block b a fun d=>f (c b d)⟩
def gI.set (A:World) {g:Nat} (hg:O g) (i:Nat) (u:Value):gI O A (A.setCell (pA g i) u):=
 ⟨rfl,rfl,rfl,by simp,fun k _ f=>fX A g i u k fun e=>f (e▸hg)⟩
def gI.alloc (O:Nat->Prop) (A:World) (o:Obj):gI O A (A.alloc o):=.ke ((bS _ A).alloc lE o)
def gI.drewN (O:Nat->Prop) (A:World) (n:Nat):gI O A (A.drewN n):=⟨rfl,rfl,rfl,lE,fun _ _ _=>rfl⟩
abbrev Jt:=Nat->(Nat->Prop)->World->Prop
def Ms (J:Jt):Prop:= ∀s O j A B,J s O A->gI O A B->(∀k,j k->(O k\/A.heap.size<=k)/\k<B.heap.size)->J s j B
abbrev Vi:=Nat->(Nat->Prop)->World->Array Value->Prop
def Kg (P:Program) (l d:Nat) (H:Vi) (J:Jt):Prop:=
 ∀m s O x W,J s O W->H s O W x->YieldAt Fence.wide m P l x W fun e i=>e=.returned true/\J (s+1) O i/\Below d W i/\ ∀k,O k->i.heap[k]? =W.heap[k]?
def zO (P:Program) (g:Nat) (lb:Array Value) (d:Nat) (H:Vi) (St:(Nat->Prop)->World->Prop):Prop:=
 ∀(n l:Nat) (J:Jt) (O:Nat->Prop) (W:World),1<=n->St O W->Ms J->Kg P l d H J->J 0 O W->
  CallsIn Fence.wide n P g (#[.func (.yield l) #[] #[]]++lb) W fun e i=>(∃v,e=.returned v)/\ ∃s j,J s j i
def rR (B:Nat) (I:World->Prop):Prop:= ∀A C row,I A->A.grownBy C row->(∀r,row=some r->B<=r/\ ∃o:Obj,A.heap[r]? =some o/\o.isCells=false)->I C
structure ju (B n0:Nat) (O:Nat->Prop) (W W':World):Prop where
 kf:KeepsFrom B W W'
 bl:Below n0 W W'
 ok: ∀k,O k->W'.heap[k]? =W.heap[k]?
def ju.refl (B d:Nat) (O:Nat->Prop) (W:World):ju B d O W W:=⟨KeepsFrom.refl _ _,bS _ _,fun _ _=>rfl⟩
def ju.trans {B:Nat} {X Y Z:World} (h:ju B d O X Y) (k:ju B d O Y Z):ju B d O X Z:=⟨h.kf.trans k.kf,h.bl.trans k.bl,fun b a=>(k.ok b a).trans (h.ok b a)⟩
def rR.putObj {B:Nat} {I:World->Prop} (h:rR B I) {W:World} {l:Nat} {o:Obj} (Y:Obj) (hs:I W) (a:B<=l) (F:W.heap[l]? =some o) (c:o.isCells=false):I (W.putObj l Y):=
 h W _ (some l) hs (grownBy_putObj' W l Y) fun r e=>by cases e;exact⟨a,o,F,c⟩
def JZ {P:Program} {n:Nat} {g:Operand} {ps:Array Tmp} {assign body:Code} {Q:Exit->Act->World->Prop} {a:Act} {w:World}
  (h2:2<=n) {gf:Nat} {lb:Array Value} (hg:a.eval g=.func (.func gf) #[] lb) (eg: ∀args w,(callFunc gf args).run P w=.ok (.enter gf args) w)
  {H:Vi} {St:(Nat->Prop)->World->Prop} (af:zO P gf lb d H St) (aD:d<=w) (aA: ∀s O W x,H s O W x->x.size=ps.size)
  (I:Jt) (hI:Ms I) (L: ∀s O,rR w (I s O)) (X:Nat->Prop) (ah: ∀k,X k->k<w.heap.size) (ai: ∀W,w.grownBy W none->St X W) (h0:I 0 X w)
  (Ax:Nat->(Nat->Prop)->Array Value->Act->World->Prop) (ag: ∀s O x y,rR w (Ax s O x y))
  (q: ∀(m l s:Nat) (O:Nat->Prop) (x:Array Value) (W:World) (K:Act->World->Prop),I s O W->H s O W x->(∀k,O k->k<W.heap.size)->w.heap.size<=W->(∀y i,ju w d O W i->Ax s O x y i->K y i)->
   assign.wpIn (Fence.wide.inRound l) m P (Exit.then K (fun _ _ _=>False)) {tmps:=(ps.zip x).foldl (fun t (p,v)=>t.setIfInBounds p v) a.tmps,defers:=[]} W)
  (M: ∀(m l s:Nat) (O:Nat->Prop) (x:Array Value) (y:Act) (W:World),w.heap.size<=l->(∃r,W.heap[l]? =some (.loop r))->(∀k,O k->k<W.heap.size)->w.heap.size<=W->Ax s O x y W->
   body.wpIn (Fence.wide.inRound l) m P (fun e _ i=>e=.normal/\ju w d O W i/\I (s+1) O i) y W)
  (N: ∀(D s:Nat) (O:Nat->Prop) (W:World),w.heap.size<=D->I s O W->W.heap[D]? =some (.deferred (some []))->Q .normal {a with defers:={target:=.collected D,args:= #[]}::a.defers} W):
  (Code.rangeFunc g ps assign body).wpIn Fence.wide n P Q a w:=by
 refine wpIn_rangeFunc fun fn ak=>?_;obtain⟨R,C⟩: ∃R:LoopState->Loop,R=fun st=>{state:=st,pending:=none,fn,tmps:=a.tmps,params:=ps,assign,body,defers:=w.heap.size}:=⟨_,rfl⟩;obtain⟨V,hV⟩:=nR ((w.alloc (.deferred (some []))).alloc (.loop (R .ready)));have vL:V.heap[w.heap.size+1]? =some (.loop (R .ready)):=by rw[<-hV];have:=World.alloc_heap_new (w.alloc (.deferred (some []))) (.loop (R .ready));rwa [lz] at this
 have vD:V.heap[w.heap.size]? =some (.deferred (some [])):=by rw[<-hV];exact(sV _ _ _ sI).trans (World.alloc_heap_new w _)
 have S:w.grownBy V none:=by rw[<-hV];exact(rN w _ none).trans (rN _ _ none)
 have vI:I 0 X V:=L 0 X w V none h0 S fun r e=>by cases e
 refine⟨w.heap.size+1,[{target:=.collected w,args:= #[]}],V,{target:=.fn (.func gf) lb,args:= #[.func (.yield (w+1)) #[] #[]]},V,gf,
  #[.func (.yield (w+1)) #[] #[]]++lb,V,?_,?_,fun f' aB=>?_,?_,fun _=>oG,?_⟩
 ·rw[<-hV,C];exact run_enterLoop_outer _ _ _ _ _
 ·simp only[resolve,hg];simp[go_sem]
 ·trivial
 ·simp[invoke,go_sem,eg]
 obtain⟨J,o⟩: ∃J:Jt,J=fun s O W=>I s O W/\(∀k,O k->k<W.heap.size/\k≠w.heap.size/\k≠w.heap.size+1)/\W.heap[w.heap.size+1]? =some (.loop (R .ready))/\W.heap[w.heap.size]? =some (.deferred (some [])):=⟨_,rfl⟩;have hJ:Ms J:=fun s O j A B E hs c=>by
  rw[o] at E|-
  obtain⟨j1,j2,j3,j4⟩:=E;have l3:=(aah.1 j3).1;have l4:=(aah.1 j4).1;refine⟨hI s O j A B j1 hs c,fun k u=>⟨(c k u).2,?_⟩,(hs.block _ l3 fun h=>(j2 _ h).2.2 rfl).trans j3,(hs.block _ l4 fun h=>(j2 _ h).2.1 rfl).trans j4⟩
  rcases (c k u).1 with h|h
  ·exact(j2 k h).2
  ·omega
 refine(af (n-1) (w+1) J X V oG (ai V S) hJ (fun m s O x W E hx=>?_) (by rw[o];exact⟨vI,fun k u=>by have:=ah k u;have:=S.size;omega,vL,vD⟩)).mono ?_
 ·rw[o] at E;obtain⟨hi,c,F,u⟩:=E;have aC:=(aah.1 F).1;have hy:=run_yield (P:=P) (args:=x) F (by rw[C];exact aA _ _ _ _ hx);rw[C] at hy;refine⟨fn,_,assign,body,hy,roundIn_of_wpIn ak (q _ _ s O x W _ hi hx (fun k h=>(c k h).1) oG fun y Wa f aj=>?_)⟩;clear hy;have T:=f.kf.same _ _ oG F rfl;have aw:=f.kf.same _ _ lE u rfl;have aa:=(aah.1 T).1;refine⟨_,run_beginRound T (by rw[C]),?_⟩;have Z:(Wa.putObj (w+1) (.loop {R .ready with state:=.busy})).heap[w.heap.size+1]? =some (.loop {R .ready with state:=.busy}):=World.putObj_heap_same aa;have ay:(Wa.putObj (w+1) (.loop {R .ready with state:=.busy})).heap[w.heap.size]? =some (.deferred (some [])):=(World.putObj_heap_other oG).trans aw;have G: ∀(W:World) (Y:Obj),Below d W (W.putObj (w+1) Y)/\ ∀k,O k->(W.putObj (w+1) Y).heap[k]? =W.heap[k]? :=fun W Y=>
   ⟨⟨rfl,rfl,rfl,by simp,fun k u=>World.putObj_heap_other oG⟩,fun k h=>World.putObj_heap_other (fun e=>(c k h).2.2 oG)⟩
  refine wpIn_mono (M _ _ s O x y _ oG ⟨_,Z⟩ (fun k h=>by have:=(c k h).1;have:=f.bl.size;simp;omega) sO ((ag s O x y).putObj _ aj oG T rfl)) ?_;rintro e a3 W3 ⟨rfl,b,aq⟩;have z:=b.kf.same _ _ oG Z rfl;have az:=b.kf.same _ _ lE ay rfl;have ae:=(aah.1 z).1;have hr:=run_endRound (P:=P) none z;have hp:=G Wa (.loop {R .ready with state:=.busy});have U:=G W3 (.loop (R .ready));have aE:W.heap.size<=W3.heap.size:=by have h1:=f.bl.size;have h3:=b.bl.size;simp at h3;omega
  rw[C] at hr z U hp b;refine⟨_,_,hr,rfl,?_,f.bl.trans (hp.1.trans (b.bl.trans U.1)),fun k h=>(U.2 k h).trans ((b.ok k h).trans ((hp.2 k h).trans (f.ok k h)))⟩;rw[o];refine⟨(L _ _).putObj _ aq oG z rfl,fun k h=>⟨?_,(c k h).2⟩,?_,(World.putObj_heap_other oG).trans az⟩
  ·have:=(c k h).1;simp;omega
  ·rw[C];exact World.putObj_heap_same ae
 ·rintro e W2 ⟨⟨v,rfl⟩,s,j,E⟩;rw[o] at E;obtain⟨hi,c,F,u⟩:=E;exact⟨none,_,by have:=run_endLoop (P:=P) F (by rw[C];simp);rw[C] at this;exact this,N _ s j _ lE ((L _ _).putObj _ hi oG F rfl) ((World.putObj_heap_other oG).trans u)⟩
end
section
open Go Go.RowKit
variable {B n:Nat}
def rR.ig (g:Nat) (t:TypeId) (cs:List Value):rR B (fun W=>fc W g t cs):=fun A C row h c f=>by have a:=h.lt;refine(c.block g a fun e=>?_).trans h;obtain⟨-,o,q,b⟩:=f g e.symm;unfold fc at h;rw[h] at q;cases q;cases b
def rR.and {I J:World->Prop} (G:rR B I) (z:rR B J):rR B (fun W=>I W/\J W):=fun A C row h c f=>⟨G A C row h.1 c f,z A C row h.2 c f⟩
def rR.const (B:Nat) (p:Prop):rR B (fun _=>p):=fun _ _ _ h _ _=>h
def rR.size (B n:Nat):rR B (fun W=>n<=W):=fun _ _ _ h c _=>eZ h c.size
def rR.below {w0:World} (b:n<=B) (a:n<=w0):rR B (fun W=>Below n w0 W):=fun A C row h c f=>
 h.grown c (eZ a h.size) (fun r e=>by have:=(f r e).1;omega)
def Xu (B:Nat) (W b:World):Prop:= ∀J:World->Prop,rR B J->J W->J b
def qL {P:Program} {g:Operand} {ps:Array Tmp} {assign body:Code} {Q:Exit->Act->World->Prop} {a:Act} {w:World}
  (F:2<=n) {gf:Nat} {lb:Array Value} (c:a.eval g=.func (.func gf) #[] lb) (U: ∀args w,(callFunc gf args).run P w=.ok (.enter gf args) w)
  {u:Nat} {B:Vi} {T:(Nat->Prop)->World->Prop} (r:zO P gf lb u B T) (N:u<=w) (R: ∀s O W x,B s O W x->x.size=ps.size)
  (I:Jt) (G:Ms I) (H: ∀s O,rR w (I s O)) (y:Nat->Prop) (L: ∀k,y k->k<w.heap.size) (M: ∀W,w.grownBy W none->T y W) (V:I 0 y w)
  (d: ∀(m l s:Nat) (O:Nat->Prop) (x:Array Value) (W:World) (K:Act->World->Prop),I s O W->B s O W x->(∀k,O k->k<W.heap.size)->w.heap.size<=W->
   RowKit.Hid (∀j E,ju w u O W E->
    (∀(m l:Nat) (b:World),(∀k,O k->k<b.heap.size)->w.heap.size<=b->Xu w E b->
     body.wpIn (Fence.wide.inRound l) m P (fun e _ o=>e=.normal/\ju w u O b o/\I (s+1) O o) j b)->K j E)->
   assign.wpIn (Fence.wide.inRound l) m P (Exit.then K (fun _ _ _=>False)) {tmps:=(ps.zip x).foldl (fun t (p,v)=>t.setIfInBounds p v) a.tmps,defers:=[]} W)
  (i: ∀(D s:Nat) (O:Nat->Prop) (W:World),w.heap.size<=D->I s O W->W.heap[D]? =some (.deferred (some []))->Q .normal {a with defers:={target:=.collected D,args:= #[]}::a.defers} W):
  (Code.rangeFunc g ps assign body).wpIn Fence.wide n P Q a w:=
 JZ F c U r N R I G H y L M V
  (fun s O x j W=> ∀(m l:Nat) (b:World),(∀k,O k->k<b.heap.size)->w.heap.size<=b->Xu w W b->
   body.wpIn (Fence.wide.inRound l) m P (fun e _ o=>e=.normal/\ju w u O b o/\I (s+1) O o) j b)
  (fun s O x j A C row h c f m l b X F Y=>h m l b X F fun J z Z=>Y J z (z A C row Z c f))
  (fun m l s O x W K hi hx q S hk=>d m l s O x W K hi hx q S hk)
  (fun m l s O x j W _ _ q S h=>h m l W q S fun _ _ h=>h)
  i
end
end Go.Proofs.YtgimnjldndkalaaGreatDoor
