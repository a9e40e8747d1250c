/- Of the proof of TopCosts: A region in a round of a loop over a function: what is walked outside holds there too. -/
import Derived.OrdersIn
import Derived.TacticsInMore
import Derived.Test.YtgimnjldndkalaaGreatDoorF3
set_option linter.all false
set_option maxRecDepth 100000
namespace Go.Proofs.YtgimnjldndkalaaGreatDoor
variable {a:Act} {ops:Array Oper} {Q:Exit->Act->World->Prop} {i l m n:Nat} {o:Oper} {P:Program} {w:World}
section
open Go
variable {K:Act->World->Prop} {args:Array Value}
def n9 {f:FuncId} {R:Ending->World->Prop} (h:Calls P f args w R):CallsIn (Fence.wide.inRound l) n P f args w R:=callsIn_wide.2 h
def Gx {row:String} {R:Value->World->Prop} (h:Rows P row args w R):RowsIn (Fence.wide.inRound l) n P row args w R:=
 fun c cs _=>let ⟨v,w',r,s⟩:=h c cs;⟨v,w',r,stepsIn_wide.2 s⟩
def IQ (ops:Array Oper):Bool:=ops.toList.all fun o=>match o.op with
 | .defer _=>false
 |_=>true
section
def IU (h:IQ ops=true) (b:ops[i]? =some o): ∀c,o.op≠ .defer c:=fun c e=>by have:=dT.1 h o (DW.2 (Xr b));rw[e] at this;cases this
def Bp (d: ∀c,o.op≠ .defer c) (h:o.wp P a w K Q):o.wpIn (Fence.wide.inRound l) m P a w K Q:=by
 unfold Oper.wp at h;refine⟨fun f _=>trivial,?_⟩;rw[show(Fence.wide.inRound l).round=some l from rfl,iO l _ o d];generalize (execOp a.eval o).run P w=r at h|-
 have b:(Fence.wide.inRound l).depth.isSome=true->1<=m:=fun h=>by cases h
 cases r with
 |ok x w'=>
  cases x <;>simp only[Oper.upon,Oper.uponIn] at h|-
  all_goals first
   |exact h
   |exact⟨b,n9 h⟩
   |exact⟨b,Gx h⟩
   |exact h.elim
 |halt x w'=>cases x <;>simp only[Oper.upon,Oper.uponIn] at h|- <;>exact h
def UT (c:IQ ops=true) (d: ¬LetsOut Q) {j:Act->World->Prop} (g: ∀a w,K a w->j a w) (h:wpOp P ops Q i K a w):wpOpIn (Fence.wide.inRound l) m P ops Q i j a w:=by
 unfold wpOp at h;unfold wpOpIn;cases b:ops[i]? with
 |none=>rw[b] at h;exact g _ _ h
 |some o=>
  rw[b] at h;dsimp only at h|-
  split
  ·rename_i e;rw[if_pos e] at h
   rcases h with h|h
   ·exact Bp (IU c b) (aax g h)
   ·exact absurd h.2 d
  ·rename_i e;rw[if_neg e] at h;exact⟨fun f _=>trivial,g _ _ h⟩
def JY (c:IQ ops=true) (d: ¬LetsOut Q): ∀(n:Nat) (b:Array Bool) (a:Act) (w:World),wpAny P .any ops Q n b a w->wpAnyIn (Fence.wide.inRound l) m P .any ops Q n b a w
 |0,_,_,_,h=>h
 |n+1,_,_,_,h=>⟨h.1,fun i e=>UT c d (fun _ _=>JY c d n _ _ _) (h.2 i e)⟩
def FE (d: ¬LetsOut Q): ∀(L:List Oper),(∀o∈L,∀c,o.op≠ .defer c)-> ∀(a:Act) (w:World),wpList P ops Q L a w->wpListIn (Fence.wide.inRound l) m P ops Q L a w
 | [],_,_,_,h=>h
 |o::L,hd,a,w,h=>by
  unfold wpList at h;unfold wpListIn;have g:=FE d L (fun o b=>hd o (.tail _ b));split
  ·rename_i e;rw[if_pos e] at h
   rcases h with h|h
   ·exact Bp (hd o (.head _)) (aax g h)
   ·exact absurd h.2 d
  ·rename_i e;rw[if_neg e] at h;exact⟨fun f _=>trivial,g _ _ h⟩
def VK: ¬LetsOut (oB Q):=fun⟨_,_,h⟩=>h
def xx (S:World->Prop) (late:List Nat) {id:Nat} (b:P.follows .mixedOrders=true) (c:IQ ops=true) (hS:S w.drew)
  (h:S w.drew->il P ops (oB Q) S late ops.size (Array.replicate ops.size false) a w.drew):(Code.region id ops true).wpIn (Fence.wide.inRound l) m P Q a w:=
 wpIn_mono (wpIn_region_any b (JY (Q:=oB Q) c VK _ _ _ _ (vc _ _ _ _ (h hS)))) x9
end
end
section
open Go
variable {b g:Array Bool} {j:Nat}
section
variable {opsA:Array Oper} {F:Fence}
def H5 (opsA:Array Oper):Bool:=(List.range opsA.size).all fun i=>match opsA[i]? with
 |some o=>o.after.toList.all (fun e=>Nat.blt e.on i)&&(match o.guard with
  |some (r,_)=>Nat.blt r i
  |none=>true)&&(match o.op with
  | .defer _=>false
  |_=>true)
 |none=>true
def Ts (ops:Array Oper) (k:Nat):Bool:=(List.range k).all fun i=>JU ops i (xk ops i)&&(List.range ops.size).all fun j=>Nat.blt j k||(xk ops i).contains j
structure Nu (ops opsA:Array Oper) (listedA listed:Array Bool):Prop where
 sA:listedA.size=opsA.size
 s:listed.size=ops.size
 lo: ∀i,i<opsA.size->listedA.getD i true=listed.getD i true
 hi: ∀j,opsA.size<=j->j<ops.size->listed.getD j true=false
 de: ∀i,i<opsA.size->listed.getD i true=false-> ∀d∈xk ops i,listed.getD d true=false
def aai: ∀(n:Nat) (b:Array Bool) (a:Act) (w:World),wpAnyIn F m P .any ops Q n b a w->wpAnyIn F m P .any ops Q (n+1) b a w
 |0,_,_,_,h=>⟨fun _=>h.2,fun i s=>by rw[h.1] at s;cases s⟩
 |n+1,_,_,_,h=>⟨h.1,fun i s=>wpOpIn_mono (fun _ _=>aai n _ _ _) (h.2 i s)⟩
def En (k:Nat) (h:wpAnyIn F m P .any ops Q n b a w):wpAnyIn F m P .any ops Q (n+k) b a w:=by
 induction k with
 |zero=>exact h
 |succ k ih=>exact aai _ _ _ _ ih
def sw (h:H5 opsA=true) (l:opsA[i]? =some o):(∀e∈o.after,e.on<i)/\(∀r b,o.guard=some (r,b)->r<i)/\ ∀c,o.op≠ .defer c:=by
 have:=dT.1 h i (jz.2 (aah.1 l).1);rw[l] at this;simp only[a6] at this;obtain⟨⟨t,u⟩,d⟩:=this;refine⟨fun e k=>?_,fun r b U=>?_,fun c v=>?_⟩
 ·have:=dT.1 t e (DW.2 k)
  rwa [fT] at this
 ·rw[U] at u;dsimp only at u;rwa [fT] at u
 ·rw[v] at d;cases d
def yL {l:Array Bool} (h:i<l.size):l.getD i false=l.getD i true:=by simp[h]
def Kj (v:H5 opsA=true) (a:g.size=opsA.size) (q:Region.ready .any opsA g=[]): ∀i,i<opsA.size->g.getD i true=true:=by
 intro i
 induction i using Nat.strongRecOn with
 |_ i ih=>
  intro s;cases c:g.getD i true with
  |true=>rfl
  |false=>
   have l:opsA[i]? =some opsA[i]:=fM s;have:i∈Region.ready .any opsA g:=mem_ready.2 ⟨c,_,l,fun e k _=>by have t:=(sw v l).1 e k;rw[yL oG];exact ih e.on t oG⟩;rw[q] at this;cases this
def Jc (C: ∀i,i<opsA.size->ops[i]? =opsA[i]?) (v:H5 opsA=true) (E:Ts ops opsA.size=true) (q:Nu ops opsA g b) {i0:Nat} (A:i0<opsA.size) (y:b.getD i0 true=false) (J:j∈Region.ready .any ops b):
  j<opsA.size/\j∈Region.ready .any opsA g:=by
 have c:=(mem_ready.1 J);obtain⟨t,o,l,u⟩:=c;have f:=(aah.1 l).1;have a:j<opsA.size:=by
  rcases iU j opsA.size with h|h
  ·exact h
  ·exfalso;have:=dT.1 E i0 (jz.2 A);rw[a6] at this;have d:=dT.1 this.2 j (jz.2 f);rw[hU,fT] at d;have m:j∈xk ops i0:=by
    rcases d with d|d
    ·omega
    ·simpa using d
   exact AV this.1 y (q.de i0 A y) m J
 refine⟨a,mem_ready.2 ⟨by rw[q.lo j a];exact t,o,by rw[<-C j a];exact l,fun e k I=>?_⟩⟩;have n:=(sw v (by rw[<-C j a];exact l)).1 e k;rw[yL (by rw[q.sA];omega),q.lo e.on oG,<-yL (by rw[q.s];omega)];exact u e k I
def OJ (C: ∀i,i<opsA.size->ops[i]? =opsA[i]?) (E:Ts ops opsA.size=true) (R:opsA.size<=ops.size) (q:Nu ops opsA g b) (J:j<opsA.size) (f:j∈Region.ready .any ops b):Nu ops opsA (g.setIfInBounds j true) (b.setIfInBounds j true):=by
 refine⟨by simp[q.sA],by simp[q.s],fun i s=>?_,fun i t u=>?_,fun i s c d p=>?_⟩
 ·by_cases e:j=i
  ·subst e;have t:j<g.size:=by rw[q.sA];exact J
   have u:j<b.size:=by rw[q.s];omega
   simp[t,u]
  ·rw[getD_set_ne true e,getD_set_ne true e];exact q.lo i s
 ·rw[getD_set_ne true oG];exact q.hi i t u
 ·by_cases e:j=i
  ·subst e;have u:j<b.size:=by rw[q.s];omega
   simp[u] at c
  ·rw[getD_set_ne true e] at c;have a:=dT.1 E i (jz.2 s);rw[a6] at a;have h:j≠d:=fun e=>AV a.1 c (q.de i s c) (e▸p) f;rw[getD_set_ne true h];exact q.de i s c d p
def CK (k n:Nat):Array Bool:=(List.replicate k true++List.replicate (n-k) false).toArray
def Eo (D: ∀{o:Oper} {a:Act} {w:World} {K:Act->World->Prop},(∀c,o.op≠ .defer c)->o.wp P a w K (oB (fun _ _ _=>False))->o.wpIn F m P a w K Q) (hF: ∀f,F.fn f)
  (C: ∀i,i<opsA.size->ops[i]? =opsA[i]?) (v:H5 opsA=true) (E:Ts ops opsA.size=true) (R:opsA.size<=ops.size) (r:Nat) {QA:Act->World->Prop} (N: ∀a w,QA a w->wpAnyIn F m P .any ops Q r (CK opsA.size ops.size) a w):
  ∀(n:Nat) (g b:Array Bool) (a:Act) (w:World),Nu ops opsA g b->wpAny P .any opsA (oB fun _ a w=>QA a w) n g a w->wpAnyIn F m P .any ops Q (n+r) b a w:=by
 have key: ∀(g b:Array Bool),Nu ops opsA g b->Region.ready .any opsA g=[]->b=CK opsA.size ops.size:=by
  intro g b q A;have O:=Kj v q.sA A;refine Array.ext (by simp[CK,q.s];omega) fun i t u=>?_;have e1:b[i]=b.getD i true:=by simp[t]
  have s:i<ops.size:=by rw[<-q.s];exact t
  have e2:(CK opsA.size ops.size)[i]=decide (i<opsA.size):=by simp only[CK,List.getElem_toArray,List.getElem_append,Xt,List.getElem_replicate];split <;>simp_all
  rw[e1,e2];by_cases h:i<opsA.size
  ·rw[<-q.lo i h,O i h];simp[h]
  ·rw[q.hi i oG s];simp[h]
 intro n
 induction n with
 |zero=>
  intro g b a w q h;rw[key _ _ q h.1,gW];exact N _ _ h.2
 |succ n ih=>
  intro g b a w q h;by_cases A:Region.ready .any opsA g=[]
  ·rw[key _ _ q A,sY];exact En _ (N _ _ (h.1 A))
  ·rw[show n+1+r=(n+r)+1 by omega];have⟨i0,V⟩:=List.exists_mem_of_ne_nil _ A;obtain⟨g1,o0,T,g3⟩:=mem_ready.1 V;have z:=(aah.1 T).1;have y:b.getD i0 true=false:=by rw[<-q.lo i0 z];exact g1
   have G:i0∈Region.ready .any ops b:=mem_ready.2 ⟨y,o0,by rw[C i0 z];exact T,fun e k I=>by have:=(sw v T).1 e k;rw[yL (by rw[q.s];omega),<-q.lo e.on oG,<-yL (by rw[q.sA];omega)];exact g3 e k I⟩;refine⟨fun k=>(by rw[k] at G;cases G),fun j J=>?_⟩;obtain⟨L,W⟩:=Jc C v E q z y J;have d:=h.2 j W;have H:=OJ C E R q L J;obtain⟨o,l⟩: ∃o,opsA[j]? =some o:=⟨_,fM L⟩;have X:Region.wanted o (yielded opsA a.tmps)=Region.wanted o (yielded ops a.tmps):=by
    unfold Region.wanted;cases U:o.guard with
    |none=>rfl
    |some p=>
     obtain⟨Z,bb⟩:=p;have:=(sw v l).2.1 Z bb U;unfold yielded;dsimp only;rw[C Z oG]
   unfold wpOp at d;unfold wpOpIn;rw[C j L,l];rw[l] at d;dsimp only at d|-
   rw[X] at d;split
   ·rename_i M;rw[if_pos M] at d
    rcases d with d|d
    ·refine D (sw v l).2.2 ?_;have t:=aax (fun S w' B=>ih _ _ S w' H B) d;unfold Oper.wp at t|-
     generalize (execOp a.eval o).run P w=Y at t|-
     cases Y with
     |ok x w'=>
      cases x <;>simp only[Oper.upon] at t|- <;>try exact t
     |halt x w'=>
      cases x <;>simp only[Oper.upon] at t|- <;>try exact t
    ·obtain⟨_,_,k⟩:=d.2;exact k.elim
   ·rename_i M;rw[if_neg M] at d;exact⟨fun f _=>hF f,ih _ _ _ _ H d⟩
def Uh {K:Act->World->Prop} (h:o.wp P a w K (oB (fun _ _ _=>False))):o.wpIn Fence.wide m P a w K Q:=by
 unfold Oper.wp at h;refine⟨fun f _=>trivial,?_⟩;rw[show Fence.wide.round=none from rfl,Oper.semAt_none];generalize (execOp a.eval o).run P w=r at h|-
 have b:Fence.wide.depth.isSome=true->1<=m:=fun h=>by cases h
 cases r with
 |ok x w'=>
  cases x <;>simp only[Oper.upon,Oper.uponIn] at h|-
  case enter f args=>exact⟨b,callsIn_wide.2 (Kc h fun e d k=>by cases e with
   |returned v=>exact k
   |panicked c=>exact k.elim
   |outgrown=>obtain⟨_,_,k⟩:=k;exact k.elim)⟩
  case row row args=>exact⟨b,fun c cs _=>let ⟨v,w',r,s⟩:=h c cs;⟨v,w',r,stepsIn_wide.2 s⟩⟩
  all_goals first
   |exact h
   |exact h.elim
 |halt x w'=>cases x <;>simp only[Oper.upon,Oper.uponIn] at h|- <;>exact h.elim
def Sp (ops:Array Oper) (k:Nat): ∀i,i<(ops.toList.take k).toArray.size->ops[i]? =(ops.toList.take k).toArray[i]? :=fun i s=>by simp at s;simp[gq];omega
def Md (k r:Nat) (S:World->Prop) (late:List Nat) {id:Nat} (A:P.follows .mixedOrders=true) (B:(ops.toList.take k).toArray.size=k) (q:k+r=ops.size) (v:H5 (ops.toList.take k).toArray=true) (E:Ts ops k=true) (hS:S w.drew)
  (h:S w.drew->il P (ops.toList.take k).toArray (oB fun _ a w=>wpAnyIn Fence.wide m P .any ops Q r (CK k ops.size) a w) S late k (Array.replicate k false) a w.drew):(Code.region id ops true).wpIn Fence.wide m P Q a w:=by
 refine wpIn_region_any A ?_;have g:Nu ops (ops.toList.take k).toArray (Array.replicate k false) (Array.replicate ops.size false):=⟨by rw[B];simp,by simp,fun i s=>by
  rw[B] at s;have:i<ops.size:=oG;simp[s,this],fun j t u=>by simp[u],fun i s _ d p=>by
  rcases iU d ops.size with h'|h'
  ·simp[h']
  ·exfalso;have n: ∀(l W:List Nat),(∀x∈W,x<ops.size)->(∀x∈l,x<ops.size)-> ∀x∈l.foldl (fun W k=>match ops[k]? with
     |some o=>if o.after.toList.any fun e=>Region.binds .any e&&(e.on==i||W.contains e.on) then W++[k] else W
     |none=>W) W,x<ops.size:=by
    intro l
    induction l with
    |nil=>intro W hW _ x f;exact hW x f
    |cons y l ih=>
     intro W hW c x f;refine ih _ (fun z b=>?_) (fun z b=>c z (.tail _ b)) x f;dsimp only at b;split at b
     ·split at b
      ·rcases fO.1 b with b|b
       ·exact hW z b
       ·simp at b;subst b;exact c z (.head _)
      ·exact hW z b
     ·exact hW z b
   have:=n (List.range ops.size) [] (fun x f=>by cases f) (fun x f=>jz.1 f) d p;omega⟩
 have:=Eo (F:=Fence.wide) (m:=m) (Q:=Q) (fun{o a w K} _ h=>Uh h) (fun _=>trivial) (Sp ops k) v (by rw[B];exact E) (by rw[B];omega) r (QA:=fun a w=>wpAnyIn Fence.wide m P .any ops Q r (CK k ops.size) a w) (fun a w h=>by rw[B];exact h) k _ _ a w.drew g (vc _ _ _ _ (h hS));rw[q] at this;exact this
def uZ (i:Nat) {c:Oper} {d:List Oper} (s:ops.toList.drop i=c::d) (X:Region.wanted c (yielded ops a.tmps)=true) (q:Region.ready .any ops b=[i])
  (h: ∀K:Act->World->Prop,RowKit.Hid (∀S w',wpAnyIn F m P .any ops Q n (b.setIfInBounds i true) S w'->K S w')->c.wpIn F m P a w K Q):wpAnyIn F m P .any ops Q (n+1) b a w:=by
 refine⟨(fun A=>by rw[A] at q;cases q),fun k B=>?_⟩;rw[q] at B;obtain rfl:k=i:=by simpa using B
 unfold wpOpIn;simp only[pO s,X,if_true];exact h _ fun _ _ h=>h
def JW (q:Region.ready .any ops b=[]) (h:Q .normal a w):wpAnyIn F m P .any ops Q n b a w:=by
 cases n with
 |zero=>exact⟨q,h⟩
 |succ n=>exact⟨fun _=>h,(fun i s=>by rw[q] at s;cases s)⟩
end
end
end Go.Proofs.YtgimnjldndkalaaGreatDoor
