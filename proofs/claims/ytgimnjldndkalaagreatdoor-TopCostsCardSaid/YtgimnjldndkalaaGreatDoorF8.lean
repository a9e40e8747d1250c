/- Of the proof of TopCosts: Words for loops over an iterator: an append of one element in a round;. -/
import Derived.OwnWalkIn
import Derived.RangeFuncBound
import Derived.RangeFuncNested
import Derived.Test.YtgimnjldndkalaaGreatDoorF4
set_option linter.all false
set_option maxRecDepth 100000
namespace Go.Proofs.YtgimnjldndkalaaGreatDoor
section
open Go.RowKit
variable {W X Y:World} {cs:List Value} {g:Nat} {row:Option Nat} {t:TypeId}
theorem wV {F:Fence} {n:Nat} {P:Program} {ops:Array Oper} {rest:List Oper} {o:Oper} {a:Act} {Q:Exit->Act->World->Prop} (w:World) (hgd:o.guard=none) (s x:Operand) (t:TypeId)
  (ho:o.op=.call {callee:=.builtin .append,args:= #[s,x],argTypes:= #[t,t]})
  (base:Nat) (e:TypeId) (z:Value) (size bytes:Nat) (ht:P.underlying t=some (.slice e)) (hi:(P.info? e).map (fun i=>(i.zero,i.size,i.bytes))=some (some z,size,bytes))
  (Yp:z.cells.size=size) (hsz:0<size) (hby:bytes<=100)
  (v:Value) (k:Nat) (xs:List Value) (hown:w.ownsRow base e size v k xs) (hs:a.eval s=v)
  (news:List Value) (c:Nat) (hx:a.eval x=.slice (some ⟨w.heap.size,0,none⟩) 1 c) (hl:news.length=size) (h1:news.all (fun u=>u.oneCell')=true)
  (hn:k<=1000000000) (hbase:base<=w.heap.size)
  (h: ∀g cap w',w'.ownsRow base e size (.slice (some ⟨g,0,none⟩) (k+1) cap) (k+1) (xs++news)->(w.alloc (.cells news.toArray e)).grownBy w' v.ownBlock->
   wpListIn F n P ops Q rest (a.put o.dst (.slice (some ⟨g,0,none⟩) (k+1) cap)) w'):wpListIn F n P ops Q (o::rest) a (w.alloc (cB e news)):=by
 obtain⟨i,hi,hz,hs1,hb1⟩:=info_parts hi;refine wpListIn_append_own (P:=P) (w.alloc (cB e news)) hgd s x t ho base e i z size bytes ht hi hz hs1 hb1 Yp hsz v k xs hs (hown.alloc _) ⟨w.heap.size,0,none⟩ 1 c news hx oG
  (fun j u hu=>?_) (fun u hu=>dT.1 h1 u hu) mO ?_ sO (fun v' w' h1 hg _=>?_)
 ·have hadd:(⟨w.heap.size,0,none⟩:Addr).add j=⟨w.heap.size,j,none⟩:=by unfold Addr.add;split <;>simp_all
  rw[hadd,(fc.new w e news).cell];exact hu
 ·have:=kg (show k+1<=1000000001 by omega) hby;omega
 ·obtain⟨g,cap,rfl⟩:=ownsRow_succ h1;exact h g cap w' h1 hg
def fc.MU (h:fc X g t cs) (b:X.grownBy Y row) (a: ∀r,row=some r-> ∃o:Obj,X.heap[r]? =some o/\o.isCells=false):fc Y g t cs:=
 (b.block g h.lt (fun e=>by obtain⟨o,c,d⟩:=a g e.symm;unfold fc at h;rw[h] at c;cases c;cases d)).trans h
def fc.Wt (h:fc X g t cs) (b:X.grownBy Y row) (a:some g≠row):fc Y g t cs:=(b.block g h.lt a).trans h
def fc.not_row {B:Nat} {e:TypeId} (h:fc W B t cs) (c:t≠e) {base size k:Nat} {v:Value} {xs:List Value} (a:W.ownsRow base e size v k xs):some B≠v.ownBlock:=by
 rcases a.2 with ⟨rfl,_⟩|⟨g,cap,d,rfl,_,b,_⟩
 ·simp[Value.ownBlock]
 ·intro f;obtain rfl:B=g:=by simpa[Value.ownBlock] using f
  have:=(show W.heap[B]? =_ from h).symm.trans b;simp at this;exact c this.2
def Qc {β:Type} (B g:Nat) (t:TypeId) (cs:List Value):OwnFrom B (fun(_:β) W=>fc W g t cs):=fun _ _ _ _ c b a=>c.MU b fun r e=>(a r e).2
def po {a:Nat} {w:World} {D:Nat} {o b:Obj} (h:Below a w W) (f:a<=w) (d:a<=D) (c:W.heap[D]? =some o):Below a w (W.putObj D b):=
 h.grown (grownBy_putObj' W D b) (by have:=h.size;omega) (fun k e=>by cases e;exact d)
end
end Go.Proofs.YtgimnjldndkalaaGreatDoor
