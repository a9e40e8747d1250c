/- Of the proof of TopCosts: Closed facts of TopCosts, each by itself (together they outgrow the kernel's memory). -/
import Derived.Test.YtgimnjldndkalaaGreatDoorF1
import Derived.Test.YtgimnjldndkalaaGreatDoorCards
import Derived.Test.YtgimnjldndkalaaGreatDoorTie
set_option linter.all false
namespace Go.Proofs.YtgimnjldndkalaaGreatDoor
namespace topCosts
open Go.ChangeShapes Go.WideShapes Go.ChangeAt Go.RowKit
theorem XL:(Rows.topCostsRow.inPlace==Tryz.prog.inPlace 3)=true:=by kernel_rfl
theorem XM:(Rows.topCostsRow.unfollowed==Tryz.prog.unfollowed 3)=true:=by kernel_rfl
theorem XN:(Rows.topCostsRow.recurses==Tryz.prog.recurses 3)=true:=by kernel_rfl
theorem XO:(Rows.topCostsRow.named==Tryz.prog.varsNamed 3)=true:=by kernel_rfl
theorem named:Tryz.pinned.checked.prog.funcNamed Rows.topCostsRow.func=some 3:=by kernel_rfl
theorem closed:joinedFacts Tryz.pinned.checked.prog 3 Tryz.f3 Rows.topCostsSpec Rows.topCostsRow=true:=by show joinedFacts Tryz.prog _ _ _ _=true;unfold joinedFacts;rw[XL,XM,XN,XO];kernel_rfl
theorem Ys:Tryz.f3.isInstance Tryz.pinned.checked.prog Rows.topCostsRow.origin Rows.topCostsRow.targs:=of_decide_eq_true (by kernel_rfl)
theorem aaa:Tryz.f3.isWrapper Tryz.pinned.checked.prog Rows.topCostsRow.wrapper Rows.topCostsRow.mainSum:=by unfold Func.isWrapper;first|(rw[if_pos (by decide+kernel)];kernel_rfl)|(rw[if_neg (by decide+kernel)];exact⟨rfl,rfl⟩)
end topCosts
namespace topCosts
open Go.ChangeShapes Go.WideShapes Go.ChangeAt Go.RowKit
theorem XT:Rows.topCostsRow.wfByText (OpenSpec.ofChange Rows.topCostsSpec)=true:=by kernel_rfl
theorem XQ:Tryz.pinned.checked.prog.mainIs=some (true,"daae70411c7369558de5b0ae4f0bb4717236295ec8a9f36955bada3812362b92".toList):=by kernel_rfl
theorem XP:true=Tryz.pinned.checked.prog.looks []:=by kernel_rfl
theorem XR:([25,26].all fun u=> !Tryz.prog.wantsStandIn u)=true:=by kernel_rfl
theorem XS:false=Rows.topCostsRow.goesBy Tryz.pinned.checked.prog:=by kernel_rfl
end topCosts
end Go.Proofs.YtgimnjldndkalaaGreatDoor
