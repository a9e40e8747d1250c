/- Of the proof of TopCosts: The end of a list of stops, turned round in place. -/
import Derived.Test.YtgimnjldndkalaaGreatDoorF10
import Derived.Test.YtgimnjldndkalaaGreatDoorG1
set_option linter.all false
set_option maxRecDepth 100000
namespace Go.Proofs.YtgimnjldndkalaaGreatDoor
section
open Go.Proofs.Tryz
open Go.RowKit Go.Sort jm ko kN
variable {j:Nat}
def OW {t:Tr} (c:j<t.length*2):(t.flatMap gV)[j]? =(gV (t.getD (j/2) (0,0)))[j%2]? :=by obtain⟨s,u⟩:=ec (l:=t) (i:=j/2) oG;have h:=uI t (j/2) (j%2) s u oG;rw[show j/2*2+j%2=j by omega] at h;rw[h,gR,u];rfl
def ON (s:vg) {c:Nat} (a:c<2):(gV s)[c]? =some ((gV s)[c]!):=by
 have:c=0\/c=1:=oG
 rcases this with rfl|rfl <;>rfl
def EL (t:Tr) (c:j<t.length*2):(flatK gV 2 t.toArray)[j]! =(gV (t.getD (j/2) (0,0)))[j%2]! :=by rw[get_flatK _ _ _ _ (by simpa using c)];congr 2;simp[gR];rfl
def R5 (base:Nat) (w:World) (g cap c':Nat) (L a:Tr) (n:Nat) (M:n=(L++a).length) (h:OS base w (.slice g n cap) (L++a)) (H:(L++a).length<=1000000000):
  Calls prog 329 #[.slice (pA g (L.length*2)) a c'] w fun e w'=>
   e=.returned (.tuple #[])/\OS base w' (.slice g n cap) (L++a.reverse)/\kQ 84 base w w':=by
 subst M;have R:=h.1
 rcases h.2 with ⟨p,-⟩|⟨P,F,b,p,y,z,t,K,u,O⟩
 ·cases p
 injection p with m _ e3
 injection m with m
 injection m with m
 subst m;subst e3;have l: ∀j,j<(L++a).length*2->b[j]? =((L++a).flatMap gV)[j]? :=fun j c=>by
  have this:(List.take ((L++a).length*2) b.toList)[j]? =((L++a).flatMap gV)[j]? :=by rw[O]
  rw[iG c,fA] at this;exact this
 have N:((L++a).flatMap gV).length=(L++a).length*2:=mG _;have J:(L++a).length=L.length+a.length:=fa;have d: ∀(S:Tr) (j:Nat),j<S.length*2->((L++S).flatMap gV)[L.length*2+j]? =some ((gV (S.getD (j/2) (0,0)))[j%2]!):=fun S j c=>by rw[fU,fo (by rw[mG];omega),mG,rY,OW c,ON _ oG]
 have I:HoldsK gV 2 w g (L.length*2) a.toArray:=fun j c=>by
  have r:j<a.length*2:=by simpa using c
  refine⟨?_,?_⟩
  ·rw[cell_of_row w g _ b _ (0,0) z,l _ oG,d a j r,EL a r];rfl
  ·simp[World.frozen?,z]
 have f:=AnyQ.slices_Reverse KQ 2 (isAgg84) (sizeOf84) gV (fun _=>rfl) (fun x v p=>by simp[gV] at p;rcases p with rfl|rfl <;>rfl) g (L.length*2) c' a.toArray w I sO;refine(show Calls prog 329 #[.slice (pA g (L.length*2)) a c'] w (fun e w'=>e=.returned (.tuple #[])/\ ∃n,w'=putRowK gV 2 (Sort.ahead w n) g (L.length*2) a.toArray.reverse) from f).mono ?_;clear f;have E:a.toArray.reverse=a.reverse.toArray:=List.reverse_toArray;rintro e w' ⟨rfl,q,rfl⟩;have A:(putRowK gV 2 (Sort.ahead w q) g (L.length*2) a.toArray.reverse).heap[g]? =some (.cells (putCells id (L.length*2) (flatK gV 2 a.toArray.reverse) b) 84 (0,0)):=by simp[putRowK,putRow,mapBlock,Sort.ahead,jc,z,onCells]
 have B:w.grownBy (putRowK gV 2 (Sort.ahead w q) g (L.length*2) a.toArray.reverse) (some g):=by refine⟨rfl,rfl,rfl,by simp[putRowK,putRow,mapBlock,Sort.ahead],fun k Q D=>?_⟩;have:g≠k:=fun e=>D (by rw[e]);simp[putRowK,putRow,mapBlock,Sort.ahead,jc,this]
 refine⟨rfl,⟨?_,.inr ⟨g,cap,_,?_,y,A,?_,K,?_,?_⟩⟩,?_⟩
 ·rw[mG]
 ·simp
 ·simpa using t
 ·simpa[putCells] using u
 ·refine mq fun j=>?_;have o:(L++a.reverse).length=L.length+a.length:=sI;by_cases c:j<(L.length+a.length)*2
  ·rw[iG (by rw[o];exact c),fA];have C:j<b.size:=by rw[u];have:=t;omega
   by_cases s:j<L.length*2
   ·have m:((L++a.reverse).flatMap gV)[j]? =((L++a).flatMap gV)[j]? :=by rw[fU,fU,fu (by rw[mG];exact s),fu (by rw[mG];exact s)]
    rw[m,<-l j oG];simp[putCells,nz,show¬L.length*2<=j by omega]
   ·obtain⟨i,rfl⟩: ∃i,j=L.length*2+i:=⟨j-L.length*2,oG⟩;rw[d a.reverse i (by rw[Er];omega)];have G:=EL a.reverse (j:=i) (by rw[Er];omega);rw[<-E] at G;simp only[putCells,nz];rw[fM C];simp only[lL];rw[if_pos sO,rY,G];rfl
  ·rw[S5 (by rw[o];omega),hX (by rw[mG,o];omega)]
 ·exact kQ.ux h B
end
end Go.Proofs.YtgimnjldndkalaaGreatDoor
