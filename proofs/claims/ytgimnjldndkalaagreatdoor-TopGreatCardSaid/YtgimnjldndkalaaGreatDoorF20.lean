/- Of the proof of TopGreat: Small words on strings of bytes. -/
import Derived.WalkSmall
import Derived.Test.YtgimnjldndkalaaGreatDoorF4
set_option linter.all false
set_option maxRecDepth 100000
namespace Go.Proofs.YtgimnjldndkalaaGreatDoor
section
open Go.RowKit ue
def se (s:ByteArray) (k:Nat) (h:k<s.size):s.data.toList.take (k+1)=s.data.toList.take k++[s[k]]:=by rw[List.take_succ_eq_append_getElem (by simpa using h)];rfl
def kC (s:ByteArray):s.data.toList.length=s.size:=by rw[je];rfl
def DJ (s:ByteArray):s.data.toList.take s.size=s.data.toList:=fj (by rw[kC];exact lE)
def Dk (c:UInt8):oy c=true↔33<=(c.toNat:Int)/\(c.toNat:Int)<=126:=by unfold oy;rw[a6,decide_eq_true_eq,decide_eq_true_eq];omega
def uV (s:ByteArray) (h:0<s.size):s.toList.isEmpty=false:=by
 rw[mR];cases e:s.data.toList with
 |nil=>have:=kC s;rw[e] at this;simp at this;omega
 |cons a t=>rfl
def AP (s:ByteArray) (h:s.size=0):s=⟨#[]⟩:=by
 cases s with
 |mk d=>
  have:d= #[]:=Array.eq_empty_of_size_eq_zero h;rw[this]
def De (s:ByteArray) (k:Nat) (h:k<s.size):s[k]∈s.data.toList:=Mp (l:=s.data.toList) (by rw[kC];exact h)
def sJ (s:ByteArray) (h:0<s.size):s.data.toList≠[]:=fun e=>by have:=kC s;rw[e] at this;simp at this;omega
def mk_data (s:ByteArray):(⟨s.data.toList.toArray⟩:ByteArray)=s:=by cases s;simp
def L5 (a b:List UInt8):(⟨a.toArray⟩:ByteArray)++(⟨b.toArray⟩:ByteArray)=⟨(a++b).toArray⟩:=by apply ByteArray.ext;rw[Xs];simp
def vA (a b:List UInt8):Value.string ((⟨a.toArray⟩:ByteArray)++(⟨b.toArray⟩:ByteArray))=kI (a++b):=by rw[L5];rfl
def acu (b:UInt8): ∀(l:List (List UInt8)) (x:List UInt8),jw b (l++[x])=if l.isEmpty=true then x else jw b l++[b]++x
 | [],x=>rfl
 | [a],x=>by simp[jw]
 |a::c::t,x=>by
  have d:=acu b (c::t) x;simp only[acP,fY,jw] at d|-
  simp[d]
def D0 (b:UInt8) (m:Nat): ∀(l:List (List UInt8)),(∀x∈l,x.length<=m)->(jw b l).length<=l.length*(m+1)
 | [],_=>by simp[jw]
 | [a],h=>by have:=h a sI;simp[jw];omega
 |a::c::t,h=>by
  have d:=D0 b m (c::t) fun x e=>h x (by simp at e|-;exact .inr e);have:=h a sI;simp only[jw,fa,ff] at d|-
  rw[pz _ 1];omega
def gC (a b:ByteArray):(a++b).data.toList=a.data.toList++b.data.toList:=by rw[Xs];simp
def V5 (s:ByteArray) (l:List UInt8) (h:s.data.toList=l):s=⟨l.toArray⟩:=by subst h;cases s;simp
def xg {α:Type} {f:α->Bool} {l:List α} {k:Nat} {a:α} (h:(l.take k).all f=true) (c:l[k]? =some a) (b:f a=true):(l.take (k+1)).all f=true:=by rw[gk,c,my,h];simp[b]
end
end Go.Proofs.YtgimnjldndkalaaGreatDoor
