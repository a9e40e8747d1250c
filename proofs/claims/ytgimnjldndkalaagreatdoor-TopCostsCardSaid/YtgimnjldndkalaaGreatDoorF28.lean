/- Of the proof of TopCosts: slices.Clone of stops: a list of the call's own. -/
import Derived.Laws.Cover3
import Derived.Test.YtgimnjldndkalaaGreatDoorF10
set_option linter.all false
set_option maxRecDepth 100000
namespace Go.Proofs.YtgimnjldndkalaaGreatDoor
section
open Go.Proofs.Tryz
open Go.RowKit jm ko kN
def GB (A:Option Addr) (n c:Nat) (w:World):(binOp .eql 42 (.slice A n c) ()).run prog w=.ok (.bool A.isNone) w:=by simp only[binOp];simp[run_equal_slice_nil w 42 84 A n c underlying42]
def uH (m:Value) (t:Tr) (w:World) (f:RL 2 iH w m t) (D:t.length<=1000000):
  Calls prog 280 #[m] w fun e w'=> ∃l,e=.returned l/\OS w w' l t/\Below w w w':=by
 have j:=zH f;have E:=fun(A:Option Addr) (n c:Nat) (w:World)=>GB A n c w;obtain⟨A,c,rfl,B,C,h⟩:=fQ.open_ f;cases A with
 |none=>
  have r:t=[]:=by
   cases t with
   |nil=>rfl
   |cons s t=>obtain⟨b,o,u,-⟩:=h 0 s rfl;cases u
  subst r;clear f h j;go_enter func280,ntmps280;go_wp2_with fail;go_ret;exact⟨_,rfl,OS.jL _ _,bS _ _⟩
 |some p=>
  obtain⟨F,H,G⟩:=p;clear f h;have v:OS w (w.alloc (cB 84 [])) (.slice w 0 0) []:=⟨rfl,.inr ⟨w,0,#[],rfl,lE,fc.new w 84 [],lE,by simp[maxLen],rfl,rfl⟩⟩;have a:=bL (bS w w) (cB 84 []);have q:=zH (fQ.rs (fQ.below j a lE));go_enter func280,ntmps280;go_wp2_with (at_builtin;refine nL _ rfl (.tmp 5) (.tmp 6) 42 rfl w 84 _ 2 16 underlying42 nU rfl dE dE _ 0 _ v rfl _ t c (t.flatMap gV) rfl q (mK t) oG sI ?_;intro x y d i;have g:=i.below sI);have k:OS w y x t:=by rw[gW] at d;exact d
  obtain⟨z,c5,rfl,-⟩:=k.slice;go_ret;exact⟨_,rfl,k,a.trans g⟩
end
end Go.Proofs.YtgimnjldndkalaaGreatDoor
