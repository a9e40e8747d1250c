/- Of the proof of TopGreat: Arguments opened, whatever the types' numbers: lists of numbers, of such lists, of strings. -/
import Derived.Deep.Fields
import Derived.OpenShut
import Derived.ProofKit
import Derived.Test.YtgimnjldndkalaaGreatDoorRows
import Derived.Test.YtgimnjldndkalaaGreatDoorF4
set_option linter.all false
set_option maxRecDepth 100000
namespace Go.Proofs.YtgimnjldndkalaaGreatDoor
variable {held:Bool} {base:Nat} {spare:Nat->Bool} {H:Type} {w:World}
section
open Go.ChangeShapes Go.WideShapes Go.ChangeAt Go.RowKit Go.Deep jm
variable {v:Value}
section
variable {enc:TypeId×Value->H} {P:Program}
def xE {a:Addr} (h:w.cell? a=some v): ∃b o,a=(pA b o)/\b<w.heap.size:=by
 obtain⟨b,o,s⟩:=a;have c:s=none:=by simpa using World.cell?_spot h
 subst c;exact⟨b,o,rfl,aag w _ h⟩
def yc {t e:TypeId} {k:IntKind} {fuel:Nat} {x:DataW H×List MemPlace} (ht:P.underlying t=some (.slice e)) (he:P.underlying e=some (.int k)) (hc:P.cellsOf e=1)
  (h:DataW.trod enc P w base spare held fuel t [v]=some x): ∃l:List Int,gx w k v l/\ ∀z∈l,(Lit.int k z).wf=true:=by
 rcases open_ints ht he hc h with ⟨hcs,_⟩|⟨a,len,cap,zs,hcs,_,hl,hm,hz,_,hcell,hwz⟩
 ·obtain rfl:v=.slice none 0 0:=by simpa using hcs
  exact⟨[],RS.none_ _ _,fun z hz=>by simp at hz⟩
 ·obtain rfl:v=.slice (some a) len cap:=by simpa using hcs
  have hlz:len<=zs.length:=by rw[hz];split <;>omega
  have hlen:(zs.take len).length=len:=by simp;omega
  refine⟨zs.take len,⟨some a,cap,by rw[hlen],oG,hm,by simp,fun hn=>?_⟩,fun z hz=>hwz z (mh hz)⟩;obtain⟨b,o,rfl,hb⟩:=xE (by simpa[Addr.add] using hcell 0 oG);refine⟨b,o,rfl,hb,fun j u hu=>?_⟩;rw[fh] at hu;cases hj:(zs.take len)[j]? with
  |none=>simp[hj] at hu
  |some y=>
   simp only[hj,lL,lH] at hu;subst hu;rw[eU] at hj;split at hj
   ·have:=hcell j oG;rw[Go.WideShapes.add_plain] at this;rw[this,gR,hj];rfl
   ·cases hj
def rm {z:Int} (h:(Lit.int .i64 z).wf=true):tq z:=by
 have: -9223372036854775808<=z/\z<=9223372036854775807:=by simpa[Lit.wf,IntKind.min,IntKind.max,IntKind.signed,IntKind.bits] using h
 exact this
end
end
section
open Go.Proofs.Tryz
open Go.ChangeShapes Go.WideShapes Go.ChangeAt Go.RowKit Go.Deep jm
section
variable {enc:TypeId×Value->H}
def qZ:prog.cellsOf 3=1:=kR
def Ef {r:Reach} {e:Nat} {v:Value} {d:DataW H} {p:List MemPlace} (j:Value.okWide prog w r e 26 v) (h:DataW.Trod enc prog w base spare held 26 v d p):
  ∃l:List Int,gx w .i64 v l/\ ∀z∈l,tq z:=by
 obtain⟨c,a,cap,rfl⟩:=okWide_slice underlying26 j;obtain⟨b,i⟩:=h;obtain⟨l,f,g⟩:=yc (v:=.slice c a cap) underlying26 underlying3 qZ (by simpa[Value.cells] using i);exact⟨l,f,fun z k=>rm (g z k)⟩
end
end
end Go.Proofs.YtgimnjldndkalaaGreatDoor
