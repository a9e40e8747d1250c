/- Of the proof of TopGreat: A region in a round of a loop over a function: what is walked outside holds there too. -/
import Derived.OrdersIn
import Derived.TacticsInMore
import Derived.Test.YtgimnjldndkalaaGreatDoorF3
set_option linter.all false
set_option maxRecDepth 100000
namespace Go.Proofs.YtgimnjldndkalaaGreatDoor
variable {a:Act} {ops:Array Oper} {Q:Exit->Act->World->Prop} {i l m n:Nat} {o:Oper} {P:Program} {w:World}
section
open Go
variable {K:Act->World->Prop} {args:Array Value}
def n9 {f:FuncId} {R:Ending->World->Prop} (h:Calls P f args w R):CallsIn (Fence.wide.inRound l) n P f args w R:=callsIn_wide.2 h
def Gx {row:String} {R:Value->World->Prop} (h:Rows P row args w R):RowsIn (Fence.wide.inRound l) n P row args w R:=
 fun c a _=>let ⟨v,w',r,s⟩:=h c a;⟨v,w',r,stepsIn_wide.2 s⟩
def IQ (ops:Array Oper):Bool:=ops.toList.all fun o=>match o.op with
 | .defer _=>false
 |_=>true
section
def IU (h:IQ ops=true) (g:ops[i]? =some o): ∀c,o.op≠ .defer c:=fun c e=>by have:=dT.1 h o (DW.2 (Xr g));rw[e] at this;cases this
def Bp (d: ∀c,o.op≠ .defer c) (h:o.wp P a w K Q):o.wpIn (Fence.wide.inRound l) m P a w K Q:=by
 unfold Oper.wp at h;refine⟨fun f _=>trivial,?_⟩;rw[show(Fence.wide.inRound l).round=some l from rfl,iO l _ o d];generalize (execOp a.eval o).run P w=r at h|-
 have b:(Fence.wide.inRound l).depth.isSome=true->1<=m:=fun h=>by cases h
 cases r with
 |ok x w'=>
  cases x <;>simp only[Oper.upon,Oper.uponIn] at h|-
  all_goals first
   |exact h
   |exact⟨b,n9 h⟩
   |exact⟨b,Gx h⟩
   |exact h.elim
 |halt x w'=>cases x <;>simp only[Oper.upon,Oper.uponIn] at h|- <;>exact h
def UT (b:IQ ops=true) (d: ¬LetsOut Q) {j:Act->World->Prop} (c: ∀a w,K a w->j a w) (h:wpOp P ops Q i K a w):wpOpIn (Fence.wide.inRound l) m P ops Q i j a w:=by
 unfold wpOp at h;unfold wpOpIn;cases g:ops[i]? with
 |none=>rw[g] at h;exact c _ _ h
 |some o=>
  rw[g] at h;dsimp only at h|-
  split
  ·rename_i e;rw[if_pos e] at h
   rcases h with h|h
   ·exact Bp (IU b g) (aax c h)
   ·exact absurd h.2 d
  ·rename_i e;rw[if_neg e] at h;exact⟨fun f _=>trivial,c _ _ h⟩
def JY (b:IQ ops=true) (d: ¬LetsOut Q): ∀(n:Nat) (listed:Array Bool) (a:Act) (w:World),wpAny P .any ops Q n listed a w->wpAnyIn (Fence.wide.inRound l) m P .any ops Q n listed a w
 |0,_,_,_,h=>h
 |n+1,_,_,_,h=>⟨h.1,fun i c=>UT b d (fun _ _=>JY b d n _ _ _) (h.2 i c)⟩
def FE (d: ¬LetsOut Q): ∀(L:List Oper),(∀o∈L,∀c,o.op≠ .defer c)-> ∀(a:Act) (w:World),wpList P ops Q L a w->wpListIn (Fence.wide.inRound l) m P ops Q L a w
 | [],_,_,_,h=>h
 |o::L,hd,a,w,h=>by
  unfold wpList at h;unfold wpListIn;have b:=FE d L (fun o g=>hd o (.tail _ g));split
  ·rename_i e;rw[if_pos e] at h
   rcases h with h|h
   ·exact Bp (hd o (.head _)) (aax b h)
   ·exact absurd h.2 d
  ·rename_i e;rw[if_neg e] at h;exact⟨fun f _=>trivial,b _ _ h⟩
def VK: ¬LetsOut (oB Q):=fun⟨_,_,h⟩=>h
def xx (S:World->Prop) (late:List Nat) {id:Nat} (c:P.follows .mixedOrders=true) (b:IQ ops=true) (hS:S w.drew)
  (h:S w.drew->il P ops (oB Q) S late ops.size (Array.replicate ops.size false) a w.drew):(Code.region id ops true).wpIn (Fence.wide.inRound l) m P Q a w:=
 wpIn_mono (wpIn_region_any c (JY (Q:=oB Q) b VK _ _ _ _ (vc _ _ _ _ (h hS)))) x9
end
end
section
open Go
variable {b listed:Array Bool} {j:Nat}
section
variable {opsA:Array Oper} {F:Fence}
def H5 (opsA:Array Oper):Bool:=(List.range opsA.size).all fun i=>match opsA[i]? with
 |some o=>o.after.toList.all (fun e=>Nat.blt e.on i)&&(match o.guard with
  |some (r,_)=>Nat.blt r i
  |none=>true)&&(match o.op with
  | .defer _=>false
  |_=>true)
 |none=>true
def Ts (ops:Array Oper) (k:Nat):Bool:=(List.range k).all fun i=>JU ops i (xk ops i)&&(List.range ops.size).all fun j=>Nat.blt j k||(xk ops i).contains j
structure Nu (ops opsA:Array Oper) (listedA listed:Array Bool):Prop where
 sA:listedA.size=opsA.size
 s:listed.size=ops.size
 lo: ∀i,i<opsA.size->listedA.getD i true=listed.getD i true
 hi: ∀j,opsA.size<=j->j<ops.size->listed.getD j true=false
 de: ∀i,i<opsA.size->listed.getD i true=false-> ∀d∈xk ops i,listed.getD d true=false
def aai: ∀(n:Nat) (listed:Array Bool) (a:Act) (w:World),wpAnyIn F m P .any ops Q n listed a w->wpAnyIn F m P .any ops Q (n+1) listed a w
 |0,_,_,_,h=>⟨fun _=>h.2,fun i q=>by rw[h.1] at q;cases q⟩
 |n+1,_,_,_,h=>⟨h.1,fun i q=>wpOpIn_mono (fun _ _=>aai n _ _ _) (h.2 i q)⟩
def En (k:Nat) (h:wpAnyIn F m P .any ops Q n listed a w):wpAnyIn F m P .any ops Q (n+k) listed a w:=by
 induction k with
 |zero=>exact h
 |succ k ih=>exact aai _ _ _ _ ih
def sw (h:H5 opsA=true) (l:opsA[i]? =some o):(∀e∈o.after,e.on<i)/\(∀r b,o.guard=some (r,b)->r<i)/\ ∀c,o.op≠ .defer c:=by
 have:=dT.1 h i (jz.2 (aah.1 l).1);rw[l] at this;simp only[a6] at this;obtain⟨⟨s,t⟩,d⟩:=this;refine⟨fun e k=>?_,fun r b U=>?_,fun c u=>?_⟩
 ·have:=dT.1 s e (DW.2 k)
  rwa [fT] at this
 ·rw[U] at t;dsimp only at t;rwa [fT] at t
 ·rw[u] at d;cases d
def yL {l:Array Bool} (h:i<l.size):l.getD i false=l.getD i true:=by simp[h]
def Kj (u:H5 opsA=true) (a:b.size=opsA.size) (g:Region.ready .any opsA b=[]): ∀i,i<opsA.size->b.getD i true=true:=by
 intro i
 induction i using Nat.strongRecOn with
 |_ i ih=>
  intro q;cases c:b.getD i true with
  |true=>rfl
  |false=>
   have l:opsA[i]? =some opsA[i]:=fM q;have:i∈Region.ready .any opsA b:=mem_ready.2 ⟨c,_,l,fun e k _=>by have s:=(sw u l).1 e k;rw[yL oG];exact ih e.on s oG⟩;rw[g] at this;cases this
def Jc (C: ∀i,i<opsA.size->ops[i]? =opsA[i]?) (u:H5 opsA=true) (E:Ts ops opsA.size=true) (g:Nu ops opsA b listed) {B:Nat} (z:B<opsA.size) (v:listed.getD B true=false) (J:j∈Region.ready .any ops listed):
  j<opsA.size/\j∈Region.ready .any opsA b:=by
 have c:=(mem_ready.1 J);obtain⟨s,o,l,t⟩:=c;have f:=(aah.1 l).1;have a:j<opsA.size:=by
  rcases iU j opsA.size with h|h
  ·exact h
  ·exfalso;have:=dT.1 E B (jz.2 z);rw[a6] at this;have d:=dT.1 this.2 j (jz.2 f);rw[hU,fT] at d;have m:j∈xk ops B:=by
    rcases d with d|d
    ·omega
    ·simpa using d
   exact AV this.1 v (g.de B z v) m J
 refine⟨a,mem_ready.2 ⟨by rw[g.lo j a];exact s,o,by rw[<-C j a];exact l,fun e k I=>?_⟩⟩;have n:=(sw u (by rw[<-C j a];exact l)).1 e k;rw[yL (by rw[g.sA];omega),g.lo e.on oG,<-yL (by rw[g.s];omega)];exact t e k I
def OJ (C: ∀i,i<opsA.size->ops[i]? =opsA[i]?) (E:Ts ops opsA.size=true) (R:opsA.size<=ops.size) (g:Nu ops opsA b listed) (J:j<opsA.size) (f:j∈Region.ready .any ops listed):Nu ops opsA (b.setIfInBounds j true) (listed.setIfInBounds j true):=by
 refine⟨by simp[g.sA],by simp[g.s],fun i q=>?_,fun i s t=>?_,fun i q c d v=>?_⟩
 ·by_cases e:j=i
  ·subst e;have s:j<b.size:=by rw[g.sA];exact J
   have t:j<listed.size:=by rw[g.s];omega
   simp[s,t]
  ·rw[getD_set_ne true e,getD_set_ne true e];exact g.lo i q
 ·rw[getD_set_ne true oG];exact g.hi i s t
 ·by_cases e:j=i
  ·subst e;have t:j<listed.size:=by rw[g.s];omega
   simp[t] at c
  ·rw[getD_set_ne true e] at c;have a:=dT.1 E i (jz.2 q);rw[a6] at a;have h:j≠d:=fun e=>AV a.1 c (g.de i q c) (e▸v) f;rw[getD_set_ne true h];exact g.de i q c d v
def CK (k n:Nat):Array Bool:=(List.replicate k true++List.replicate (n-k) false).toArray
def Eo (D: ∀{o:Oper} {a:Act} {w:World} {K:Act->World->Prop},(∀c,o.op≠ .defer c)->o.wp P a w K (oB (fun _ _ _=>False))->o.wpIn F m P a w K Q) (hF: ∀f,F.fn f)
  (C: ∀i,i<opsA.size->ops[i]? =opsA[i]?) (u:H5 opsA=true) (E:Ts ops opsA.size=true) (R:opsA.size<=ops.size) (r:Nat) {QA:Act->World->Prop} (N: ∀a w,QA a w->wpAnyIn F m P .any ops Q r (CK opsA.size ops.size) a w):
  ∀(n:Nat) (b listed:Array Bool) (a:Act) (w:World),Nu ops opsA b listed->wpAny P .any opsA (oB fun _ a w=>QA a w) n b a w->wpAnyIn F m P .any ops Q (n+r) listed a w:=by
 have key: ∀(b listed:Array Bool),Nu ops opsA b listed->Region.ready .any opsA b=[]->listed=CK opsA.size ops.size:=by
  intro b listed g z;have O:=Kj u g.sA z;refine Array.ext (by simp[CK,g.s];omega) fun i s t=>?_;have e1:listed[i]=listed.getD i true:=by simp[s]
  have q:i<ops.size:=by rw[<-g.s];exact s
  have e2:(CK opsA.size ops.size)[i]=decide (i<opsA.size):=by simp only[CK,List.getElem_toArray,List.getElem_append,Xt,List.getElem_replicate];split <;>simp_all
  rw[e1,e2];by_cases h:i<opsA.size
  ·rw[<-g.lo i h,O i h];simp[h]
  ·rw[g.hi i oG q];simp[h]
 intro n
 induction n with
 |zero=>
  intro b listed a w g h;rw[key _ _ g h.1,gW];exact N _ _ h.2
 |succ n ih=>
  intro b listed a w g h;by_cases z:Region.ready .any opsA b=[]
  ·rw[key _ _ g z,sY];exact En _ (N _ _ (h.1 z))
  ·rw[show n+1+r=(n+r)+1 by omega];have⟨B,V⟩:=List.exists_mem_of_ne_nil _ z;obtain⟨g1,o0,T,g3⟩:=mem_ready.1 V;have y:=(aah.1 T).1;have v:listed.getD B true=false:=by rw[<-g.lo B y];exact g1
   have G:B∈Region.ready .any ops listed:=mem_ready.2 ⟨v,o0,by rw[C B y];exact T,fun e k I=>by have:=(sw u T).1 e k;rw[yL (by rw[g.s];omega),<-g.lo e.on oG,<-yL (by rw[g.sA];omega)];exact g3 e k I⟩;refine⟨fun k=>(by rw[k] at G;cases G),fun j J=>?_⟩;obtain⟨L,W⟩:=Jc C u E g y v J;have d:=h.2 j W;have H:=OJ C E R g L J;obtain⟨o,l⟩: ∃o,opsA[j]? =some o:=⟨_,fM L⟩;have X:Region.wanted o (yielded opsA a.tmps)=Region.wanted o (yielded ops a.tmps):=by
    unfold Region.wanted;cases U:o.guard with
    |none=>rfl
    |some p=>
     obtain⟨Z,bb⟩:=p;have:=(sw u l).2.1 Z bb U;unfold yielded;dsimp only;rw[C Z oG]
   unfold wpOp at d;unfold wpOpIn;rw[C j L,l];rw[l] at d;dsimp only at d|-
   rw[X] at d;split
   ·rename_i M;rw[if_pos M] at d
    rcases d with d|d
    ·refine D (sw u l).2.2 ?_;have s:=aax (fun S w' A=>ih _ _ S w' H A) d;unfold Oper.wp at s|-
     generalize (execOp a.eval o).run P w=Y at s|-
     cases Y with
     |ok x w'=>
      cases x <;>simp only[Oper.upon] at s|- <;>try exact s
     |halt x w'=>
      cases x <;>simp only[Oper.upon] at s|- <;>try exact s
    ·obtain⟨_,_,k⟩:=d.2;exact k.elim
   ·rename_i M;rw[if_neg M] at d;exact⟨fun f _=>hF f,ih _ _ _ _ H d⟩
def Uh {K:Act->World->Prop} (h:o.wp P a w K (oB (fun _ _ _=>False))):o.wpIn Fence.wide m P a w K Q:=by
 unfold Oper.wp at h;refine⟨fun f _=>trivial,?_⟩;rw[show Fence.wide.round=none from rfl,Oper.semAt_none];generalize (execOp a.eval o).run P w=r at h|-
 have b:Fence.wide.depth.isSome=true->1<=m:=fun h=>by cases h
 cases r with
 |ok x w'=>
  cases x <;>simp only[Oper.upon,Oper.uponIn] at h|-
  case enter f args=>exact⟨b,callsIn_wide.2 (Kc h fun e g k=>by cases e with
   |returned v=>exact k
   |panicked c=>exact k.elim
   |outgrown=>obtain⟨_,_,k⟩:=k;exact k.elim)⟩
  case row row args=>exact⟨b,fun c d _=>let ⟨v,w',r,s⟩:=h c d;⟨v,w',r,stepsIn_wide.2 s⟩⟩
  all_goals first
   |exact h
   |exact h.elim
 |halt x w'=>cases x <;>simp only[Oper.upon,Oper.uponIn] at h|- <;>exact h.elim
def Sp (ops:Array Oper) (k:Nat): ∀i,i<(ops.toList.take k).toArray.size->ops[i]? =(ops.toList.take k).toArray[i]? :=fun i q=>by simp at q;simp[eU];omega
def Md (k r:Nat) (S:World->Prop) (late:List Nat) {id:Nat} (B:P.follows .mixedOrders=true) (A:(ops.toList.take k).toArray.size=k) (g:k+r=ops.size) (u:H5 (ops.toList.take k).toArray=true) (E:Ts ops k=true) (hS:S w.drew)
  (h:S w.drew->il P (ops.toList.take k).toArray (oB fun _ a w=>wpAnyIn Fence.wide m P .any ops Q r (CK k ops.size) a w) S late k (Array.replicate k false) a w.drew):(Code.region id ops true).wpIn Fence.wide m P Q a w:=by
 refine wpIn_region_any B ?_;have n:Nu ops (ops.toList.take k).toArray (Array.replicate k false) (Array.replicate ops.size false):=⟨by rw[A];simp,by simp,fun i q=>by
  rw[A] at q;have:i<ops.size:=oG;simp[q,this],fun j s t=>by simp[t],fun i q _ d v=>by
  rcases iU d ops.size with h'|h'
  ·simp[h']
  ·exfalso;have p: ∀(l W:List Nat),(∀x∈W,x<ops.size)->(∀x∈l,x<ops.size)-> ∀x∈l.foldl (fun W k=>match ops[k]? with
     |some o=>if o.after.toList.any fun e=>Region.binds .any e&&(e.on==i||W.contains e.on) then W++[k] else W
     |none=>W) W,x<ops.size:=by
    intro l
    induction l with
    |nil=>intro W hW _ x f;exact hW x f
    |cons y l ih=>
     intro W hW c x f;refine ih _ (fun z b=>?_) (fun z b=>c z (.tail _ b)) x f;dsimp only at b;split at b
     ·split at b
      ·rcases fO.1 b with b|b
       ·exact hW z b
       ·simp at b;subst b;exact c z (.head _)
      ·exact hW z b
     ·exact hW z b
   have:=p (List.range ops.size) [] (fun x f=>by cases f) (fun x f=>jz.1 f) d v;omega⟩
 have:=Eo (F:=Fence.wide) (m:=m) (Q:=Q) (fun{o a w K} _ h=>Uh h) (fun _=>trivial) (Sp ops k) u (by rw[A];exact E) (by rw[A];omega) r (QA:=fun a w=>wpAnyIn Fence.wide m P .any ops Q r (CK k ops.size) a w) (fun a w h=>by rw[A];exact h) k _ _ a w.drew n (vc _ _ _ _ (h hS));rw[g] at this;exact this
def uZ (i:Nat) {b:Oper} {c:List Oper} (q:ops.toList.drop i=b::c) (X:Region.wanted b (yielded ops a.tmps)=true) (g:Region.ready .any ops listed=[i])
  (h: ∀K:Act->World->Prop,RowKit.Hid (∀S w',wpAnyIn F m P .any ops Q n (listed.setIfInBounds i true) S w'->K S w')->b.wpIn F m P a w K Q):wpAnyIn F m P .any ops Q (n+1) listed a w:=by
 refine⟨(fun z=>by rw[z] at g;cases g),fun k A=>?_⟩;rw[g] at A;obtain rfl:k=i:=by simpa using A
 unfold wpOpIn;simp only[pO q,X,if_true];exact h _ fun _ _ h=>h
def JW (g:Region.ready .any ops listed=[]) (h:Q .normal a w):wpAnyIn F m P .any ops Q n listed a w:=by
 cases n with
 |zero=>exact⟨g,h⟩
 |succ n=>exact⟨fun _=>h,(fun i q=>by rw[g] at q;cases q)⟩
end
end
end Go.Proofs.YtgimnjldndkalaaGreatDoor
