/- Of the proof of TopGreat: A piece of a list of many-celled things copied into a list of the call's own. -/
import Derived.Laws.CopyOwn
import Derived.Lib.AppendZerosOnto
import Derived.Test.YtgimnjldndkalaaGreatDoorF8
set_option linter.all false
set_option maxRecDepth 100000
namespace Go.Proofs.YtgimnjldndkalaaGreatDoor
section
open Go.Proofs.Tryz
open Go Go.RowKit jm ko kN
variable {K:Act->World->Prop} {P:Program} {Q:Exit->Act->World->Prop} {a:Act} {o:Oper} {w w':World} {α:Type}
def ry (w:World) (x A B e:TypeId) (k g o b m:Nat) (a:Addr) (c p:Nat) (l:Array Value) (t:TypeId) (f:List Value)
  (z:P.underlying x=some (.slice e)) (y:(P.info? e).map (·.size)=some k)
  (C:w.heap[g]? =some (.cells l t (0,0))) (D:f.length=Nat.min c b*k)
  (u: ∀j v,f[j]? =some v->w.cell? (a.add j)=some v) (q:o+f.length<=l.size) (n: ∀v∈f,v.oneCell'=true):
  (Builtin.copy_ #[x,A] B #[.slice (pA g o) b m,.slice (some a) c p]).run P w=
   .ok (goInt (Nat.min c b)) (w.setRow g (splice l.toList o f).toArray):=by
 have d:=run_loadCells_list (P:=P) w a f u;have r:=run_storeCells_at P g o t f 0 l w C (by simpa using q) n;cases h:P.info? e with
 |none=>simp[h] at y
 |some i=>
  have s:i.size=k:=by simpa[h] using y
  simp[Builtin.copy_,run_underlying z,Builtin.lenOf,Builtin.firstCells,sizeOf,typeInfo,h,s,<-D,d,r,splice]
def zB (w:World) (d s:Operand) (x A:TypeId)
  (E:o.op=.call {callee:=.builtin .copy,args:= #[d,s],argTypes:= #[x,A]}) (e:TypeId) (k:Nat) (z:P.underlying x=some (.slice e)) (F:(P.info? e).map (·.size)=some k)
  (g i b m:Nat) (B:Addr) (c p:Nat) (G:a.eval d=.slice (pA g i) b m) (y:a.eval s=.slice (some B) c p)
  (l:Array Value) (t:TypeId) (C:w.heap[g]? =some (.cells l t (0,0))) (f:List Value) (D:f.length=Nat.min c b*k)
  (u: ∀j v,f[j]? =some v->w.cell? (B.add j)=some v) (q:i+f.length<=l.size) (n: ∀v∈f,v.oneCell'=true)
  (h:K (a.put o.dst (goInt (Nat.min c b))) (w.setRow g (splice l.toList i f).toArray)):o.wp P a w K Q:=by
 have r:=ry (P:=P) w x A o.type e k g i b m B c p l t f z F C D u q n;unfold Oper.wp;simp[execOp,E,resolve,invoke,builtin,G,y,r,Result.andThen];exact h
def Dz (L:List α) (o:Nat) (f:List α) (h:o+f.length<=L) (j:Nat):(splice L o f)[j]? =if j<o then L[j]? else if j<o+f.length then f[j-o]? else L[j]? :=by
 have d:(L.take o).length=o:=by rw[fB];omega
 unfold splice;by_cases n:j<o
 ·rw[if_pos n,fu oG,iG n]
 ·rw[if_neg n,fo oG,d];by_cases b:j<o+f.length
  ·rw[if_pos b,fu oG]
  ·rw[if_neg b,fo oG,gS];congr 1;omega
def DA {X L V:List α} {i m:Nat} (g:V.length=m) (s:i<=L) (h:L.length+m<=X) (d: ∀j,j<i->X[j]? =L[j]?):
  (splice (splice X (i+m) (L.drop i)) i V).take (L.length+m)=L.take i++(V++L.drop i)/\(splice (splice X i V) (i+m) (L.drop i)).take (L.length+m)=L.take i++(V++L.drop i):=by
 have G:(L.drop i).length=L.length-i:=km;have c:(L.take i).length=i:=by rw[fB];omega
 have e:(splice X (i+m) (L.drop i)).length=X.length:=length_splice _ _ _ oG;have f:(splice X i V).length=X.length:=length_splice _ _ _ oG;have key: ∀j,j<L.length+m->(L.take i++(V++L.drop i))[j]? =if j<i then L[j]? else if j<i+m then V[j-i]? else L[j-m]? :=fun j a=>by
  by_cases n:j<i
  ·rw[if_pos n,fu oG,iG n]
  ·rw[if_neg n,fo oG,c];by_cases b:j<i+m
   ·rw[if_pos b,fu oG]
   ·rw[if_neg b,fo oG,gS];congr 1;omega
 constructor;all_goals
  refine gy fun j=>?_;by_cases a:j<L.length+m
  ·rw[iG a,key j a];rw[Dz _ _ _ oG,Dz _ _ _ oG];by_cases n:j<i
   ·simp only[n,if_true,show j<i+m by omega];exact d j n
   ·by_cases b:j<i+m
    ·simp only[n,b,if_true,if_false,g]
    ·simp only[n,b,if_false,g,if_pos (show j<i+m+(L.drop i).length by omega),gS];congr 1;omega
  ·rw[S5 oG,hX sO]
def setRow_size (w:World) (g:Nat) (f:Array Value):(w.setRow g f).heap.size=w.heap.size:=by simp[World.setRow]
def mY (h:Below w w w') (row:Option Nat):w.grownBy w' row:=⟨h.os,h.tape,h.output,h.size,fun k b _=>h.block k b⟩
def qC {g:Nat} (h:w.grownBy w' (some g)) (f:Array Value):w.grownBy (w'.setRow g f) (some g):=
 ⟨h.os,h.tape,h.output,by rw[setRow_size];exact h.size,fun k b a=>by rw[setRow_other _ _ _ _ (fun e=>a (by rw[e]))];exact h.block k b a⟩
def DP (w:World) (s x:Operand) (E:o.op=.call {callee:=.builtin .append,args:= #[s,x],argTypes:= #[42,42]})
  (base:Nat) (v:Value) (L:Tr) (f:OS base w v L) (y:a.eval s=v) (A:Option Addr) (m c:Nat) (T:Tr) (t:a.eval x=.slice A m c) (q:RL 2 iH w (.slice A m c) T) (p:T.length=m) (g:L.length+m<=1000000000) (e:base<=w)
  (h: ∀l w',OS base w' l (L++T)->w.grownBy w' v.ownBlock->K (a.put o.dst l) w'):o.wp prog a w K Q:=by
 subst p;obtain⟨i,k,B,d,j⟩:=info_parts nU;obtain⟨l,w',r,b,n⟩:=rP (P:=prog) w base 42 o.type 84 i _ underlying42 k B (by rw[d];rfl) (by rw[d];decide) v L.length _ (by rw[d];exact f) A T.length c (T.flatMap gV) (by rw[d];exact fQ.rs q) (fun u z=>dT.1 (mK T) u z) g (by rw[j];decide) e;unfold Oper.wp execOp;simp only[E,resolve,invoke,builtin,ks,pR,lO,mT,gN,lG,y,t,r];refine h _ _ ?_ n;rw[d] at b;unfold OS;rw[fa,fU];exact b
def EO (t:Tr) (i:Nat):(t.take i).flatMap gV=(t.flatMap gV).take (i*2):=by
 induction t generalizing i with
 |nil=>simp
 |cons a t ih=>
  cases i with
  |zero=>simp
  |succ i=>rw[rq,gG,gG,ih,show(i+1)*2=(gV a).length+i*2 by simp[gV];omega,List.take_length_add_append]
def EM (t:Tr) (i:Nat):(t.drop i).flatMap gV=(t.flatMap gV).drop (i*2):=by
 induction t generalizing i with
 |nil=>simp
 |cons a t ih=>
  cases i with
  |zero=>simp
  |succ i=>rw[rp,gG,ih,show(i+1)*2=(gV a).length+i*2 by simp[gV];omega,List.drop_length_add_append]
end
end Go.Proofs.YtgimnjldndkalaaGreatDoor
