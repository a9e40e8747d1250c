/- Of the proof of TopCosts: A piece of a list of many-celled things copied into a list of the call's own. -/
import Derived.Laws.CopyOwn
import Derived.Lib.AppendZerosOnto
import Derived.Test.YtgimnjldndkalaaGreatDoorF10
set_option linter.all false
set_option maxRecDepth 100000
namespace Go.Proofs.YtgimnjldndkalaaGreatDoor
section
open Go.Proofs.Tryz
open Go Go.RowKit jm ko kN
variable {K:Act->World->Prop} {P:Program} {Q:Exit->Act->World->Prop} {a:Act} {o:Oper} {w w':World} {α:Type}
def ry (w:World) (u x ty e:TypeId) (k g o b m:Nat) (a:Addr) (c n:Nat) (f:Array Value) (t:TypeId) (cs:List Value)
  (z:P.underlying u=some (.slice e)) (y:(P.info? e).map (·.size)=some k)
  (B:w.heap[g]? =some (.cells f t (0,0))) (C:cs.length=Nat.min c b*k)
  (r: ∀j v,cs[j]? =some v->w.cell? (a.add j)=some v) (p:o+cs.length<=f.size) (l: ∀v∈cs,v.oneCell'=true):
  (Builtin.copy_ #[u,x] ty #[.slice (pA g o) b m,.slice (some a) c n]).run P w=
   .ok (goInt (Nat.min c b)) (w.setRow g (splice f.toList o cs).toArray):=by
 have d:=run_loadCells_list (P:=P) w a cs r;have q:=run_storeCells_at P g o t cs 0 f w B (by simpa using p) l;cases h:P.info? e with
 |none=>simp[h] at y
 |some i=>
  have s:i.size=k:=by simpa[h] using y
  simp[Builtin.copy_,run_underlying z,Builtin.lenOf,Builtin.firstCells,sizeOf,typeInfo,h,s,<-C,d,q,splice]
def zB (w:World) (d s:Operand) (u x:TypeId)
  (D:o.op=.call {callee:=.builtin .copy,args:= #[d,s],argTypes:= #[u,x]}) (e:TypeId) (k:Nat) (z:P.underlying u=some (.slice e)) (E:(P.info? e).map (·.size)=some k)
  (g i b m:Nat) (A:Addr) (c n:Nat) (F:a.eval d=.slice (pA g i) b m) (y:a.eval s=.slice (some A) c n)
  (f:Array Value) (t:TypeId) (B:w.heap[g]? =some (.cells f t (0,0))) (cs:List Value) (C:cs.length=Nat.min c b*k)
  (r: ∀j v,cs[j]? =some v->w.cell? (A.add j)=some v) (p:i+cs.length<=f.size) (l: ∀v∈cs,v.oneCell'=true)
  (h:K (a.put o.dst (goInt (Nat.min c b))) (w.setRow g (splice f.toList i cs).toArray)):o.wp P a w K Q:=by
 have q:=ry (P:=P) w u x o.type e k g i b m A c n f t cs z E B C r p l;unfold Oper.wp;simp[execOp,D,resolve,invoke,builtin,F,y,q,Result.andThen];exact h
def Dz (L:List α) (o:Nat) (cs:List α) (h:o+cs.length<=L) (j:Nat):(splice L o cs)[j]? =if j<o then L[j]? else if j<o+cs.length then cs[j-o]? else L[j]? :=by
 have d:(L.take o).length=o:=by rw[fB];omega
 unfold splice;by_cases l:j<o
 ·rw[if_pos l,fu oG,iG l]
 ·rw[if_neg l,fo oG,d];by_cases b:j<o+cs.length
  ·rw[if_pos b,fu oG]
  ·rw[if_neg b,fo oG,gS];congr 1;omega
def DA {X L V:List α} {i m:Nat} (g:V.length=m) (s:i<=L) (h:L.length+m<=X) (d: ∀j,j<i->X[j]? =L[j]?):
  (splice (splice X (i+m) (L.drop i)) i V).take (L.length+m)=L.take i++(V++L.drop i)/\(splice (splice X i V) (i+m) (L.drop i)).take (L.length+m)=L.take i++(V++L.drop i):=by
 have F:(L.drop i).length=L.length-i:=km;have c:(L.take i).length=i:=by rw[fB];omega
 have e:(splice X (i+m) (L.drop i)).length=X.length:=length_splice _ _ _ oG;have f:(splice X i V).length=X.length:=length_splice _ _ _ oG;have key: ∀j,j<L.length+m->(L.take i++(V++L.drop i))[j]? =if j<i then L[j]? else if j<i+m then V[j-i]? else L[j-m]? :=fun j a=>by
  by_cases l:j<i
  ·rw[if_pos l,fu oG,iG l]
  ·rw[if_neg l,fo oG,c];by_cases b:j<i+m
   ·rw[if_pos b,fu oG]
   ·rw[if_neg b,fo oG,gS];congr 1;omega
 constructor;all_goals
  refine mq fun j=>?_;by_cases a:j<L.length+m
  ·rw[iG a,key j a];rw[Dz _ _ _ oG,Dz _ _ _ oG];by_cases l:j<i
   ·simp only[l,if_true,show j<i+m by omega];exact d j l
   ·by_cases b:j<i+m
    ·simp only[l,b,if_true,if_false,g]
    ·simp only[l,b,if_false,g,if_pos (show j<i+m+(L.drop i).length by omega),gS];congr 1;omega
  ·rw[S5 oG,hX sO]
def setRow_size (w:World) (g:Nat) (cs:Array Value):(w.setRow g cs).heap.size=w.heap.size:=by simp[World.setRow]
def mY (h:Below w w w') (row:Option Nat):w.grownBy w' row:=⟨h.os,h.tape,h.output,h.size,fun k b _=>h.block k b⟩
def qC {g:Nat} (h:w.grownBy w' (some g)) (cs:Array Value):w.grownBy (w'.setRow g cs) (some g):=
 ⟨h.os,h.tape,h.output,by rw[setRow_size];exact h.size,fun k b a=>by rw[setRow_other _ _ _ _ (fun e=>a (by rw[e]))];exact h.block k b a⟩
def DP (w:World) (s x:Operand) (D:o.op=.call {callee:=.builtin .append,args:= #[s,x],argTypes:= #[42,42]})
  (base:Nat) (v:Value) (L:Tr) (f:OS base w v L) (y:a.eval s=v) (A:Option Addr) (m c:Nat) (T:Tr) (t:a.eval x=.slice A m c) (r:RL 2 iH w (.slice A m c) T) (p:T.length=m) (g:L.length+m<=1000000000) (e:base<=w)
  (h: ∀l w',OS base w' l (L++T)->w.grownBy w' v.ownBlock->K (a.put o.dst l) w'):o.wp prog a w K Q:=by
 subst p;obtain⟨i,k,B,d,j⟩:=info_parts nU;obtain⟨l,w',q,b,n⟩:=rP (P:=prog) w base 42 o.type 84 i _ underlying42 k B (by rw[d];rfl) (by rw[d];decide) v L.length _ (by rw[d];exact f) A T.length c (T.flatMap gV) (by rw[d];exact fQ.rs r) (fun u z=>dT.1 (mK T) u z) g (by rw[j];decide) e;unfold Oper.wp execOp;simp only[D,resolve,invoke,builtin,ks,pR,lO,mT,gN,lG,y,t,q];refine h _ _ ?_ n;rw[d] at b;unfold OS;rw[fa,fU];exact b
def EO (t:Tr) (i:Nat):(t.take i).flatMap gV=(t.flatMap gV).take (i*2):=by
 induction t generalizing i with
 |nil=>simp
 |cons a t ih=>
  cases i with
  |zero=>simp
  |succ i=>rw[rq,gG,gG,ih,show(i+1)*2=(gV a).length+i*2 by simp[gV];omega,List.take_length_add_append]
def EM (t:Tr) (i:Nat):(t.drop i).flatMap gV=(t.flatMap gV).drop (i*2):=by
 induction t generalizing i with
 |nil=>simp
 |cons a t ih=>
  cases i with
  |zero=>simp
  |succ i=>rw[rp,gG,ih,show(i+1)*2=(gV a).length+i*2 by simp[gV];omega,List.drop_length_add_append]
end
end Go.Proofs.YtgimnjldndkalaaGreatDoor
