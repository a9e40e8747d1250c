/- Of the proof of TopGreat: Words for loops over an iterator: an append of one element in a round;. -/
import Derived.OwnWalkIn
import Derived.RangeFuncBound
import Derived.RangeFuncNested
import Derived.Test.YtgimnjldndkalaaGreatDoorF4
set_option linter.all false
set_option maxRecDepth 100000
namespace Go.Proofs.YtgimnjldndkalaaGreatDoor
section
open Go.RowKit
variable {W X Y:World} {a:List Value} {g:Nat} {row:Option Nat} {t:TypeId}
theorem Gd {F:Fence} {n:Nat} {P:Program} {ops:Array Oper} {rest:List Oper} {o:Oper} {a:Act} {Q:Exit->Act->World->Prop} (w:World) (hgd:o.guard=none) (s x:Operand) (t:TypeId)
  (ho:o.op=.call {callee:=.builtin .append,args:= #[s,x],argTypes:= #[t,t]})
  (base:Nat) (e:TypeId) (z:Value) (size bytes:Nat) (ht:P.underlying t=some (.slice e)) (hi:(P.info? e).map (fun i=>(i.zero,i.size,i.bytes))=some (some z,size,bytes))
  (hzs:z.cells.size=size) (hsz:0<size) (hby:bytes<=100)
  (v:Value) (k:Nat) (xs:List Value) (hown:w.ownsRow base e size v k xs) (hs:a.eval s=v)
  (news:List Value) (c:Nat) (hx:a.eval x=.slice (some ⟨w.heap.size,0,none⟩) 1 c) (hl:news.length=size) (h1:news.all (fun u=>u.oneCell')=true)
  (hn:k<=1000000000) (hbase:base<=w.heap.size)
  (h: ∀g cap w',w'.ownsRow base e size (.slice (some ⟨g,0,none⟩) (k+1) cap) (k+1) (xs++news)->(w.alloc (.cells news.toArray e)).grownBy w' v.ownBlock->
   wpListIn F n P ops Q rest (a.put o.dst (.slice (some ⟨g,0,none⟩) (k+1) cap)) w'):wpListIn F n P ops Q (o::rest) a (w.alloc (cB e news)):=by
 obtain⟨i,hi,hz,hs1,hb1⟩:=info_parts hi;refine wpListIn_append_own (P:=P) (w.alloc (cB e news)) hgd s x t ho base e i z size bytes ht hi hz hs1 hb1 hzs hsz v k xs hs (hown.alloc _) ⟨w.heap.size,0,none⟩ 1 c news hx oG
  (fun j u hu=>?_) (fun u hu=>dT.1 h1 u hu) mO ?_ sO (fun v' w' h1 hg _=>?_)
 ·have hadd:(⟨w.heap.size,0,none⟩:Addr).add j=⟨w.heap.size,j,none⟩:=by unfold Addr.add;split <;>simp_all
  rw[hadd,(fc.new w e news).cell];exact hu
 ·have:=kg (show k+1<=1000000001 by omega) hby;omega
 ·obtain⟨g,cap,rfl⟩:=ownsRow_succ h1;exact h g cap w' h1 hg
def fc.MU (h:fc X g t a) (c:X.grownBy Y row) (b: ∀r,row=some r-> ∃o:Obj,X.heap[r]? =some o/\o.isCells=false):fc Y g t a:=
 (c.block g h.lt (fun e=>by obtain⟨o,d,f⟩:=b g e.symm;unfold fc at h;rw[h] at d;cases d;cases f)).trans h
def fc.Wt (h:fc X g t a) (c:X.grownBy Y row) (b:some g≠row):fc Y g t a:=(c.block g h.lt b).trans h
def fc.not_row {B:Nat} {e:TypeId} (h:fc W B t a) (d:t≠e) {base size k:Nat} {v:Value} {j:List Value} (b:W.ownsRow base e size v k j):some B≠v.ownBlock:=by
 rcases b.2 with ⟨rfl,_⟩|⟨g,cap,f,rfl,_,c,_⟩
 ·simp[Value.ownBlock]
 ·intro i;obtain rfl:B=g:=by simpa[Value.ownBlock] using i
  have:=(show W.heap[B]? =_ from h).symm.trans c;simp at this;exact d this.2
def Qc {β:Type} (B g:Nat) (t:TypeId) (a:List Value):OwnFrom B (fun(_:β) W=>fc W g t a):=fun _ _ _ _ d c b=>d.MU c fun r e=>(b r e).2
def nb {a:Nat} {w:World} {D:Nat} {o b:Obj} (h:Below a w W) (f:a<=w) (d:a<=D) (c:W.heap[D]? =some o):Below a w (W.putObj D b):=
 h.grown (grownBy_putObj' W D b) (by have:=h.size;omega) (fun k e=>by cases e;exact d)
end
end Go.Proofs.YtgimnjldndkalaaGreatDoor
