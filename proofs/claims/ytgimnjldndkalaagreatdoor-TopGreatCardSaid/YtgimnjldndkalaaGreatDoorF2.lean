/- Of the proof of TopGreat: Closed facts of TopGreat, each by itself (together they outgrow the kernel's memory). -/
import Derived.Test.YtgimnjldndkalaaGreatDoorF1
import Derived.Test.YtgimnjldndkalaaGreatDoorCards
import Derived.Test.YtgimnjldndkalaaGreatDoorTie
set_option linter.all false
namespace Go.Proofs.YtgimnjldndkalaaGreatDoor
namespace topGreat
open Go.ChangeShapes Go.WideShapes Go.ChangeAt Go.RowKit
theorem XL:(Rows.topGreatRow.inPlace==Tryz.prog.inPlace 4)=true:=by kernel_rfl
theorem XM:(Rows.topGreatRow.unfollowed==Tryz.prog.unfollowed 4)=true:=by kernel_rfl
theorem XN:(Rows.topGreatRow.recurses==Tryz.prog.recurses 4)=true:=by kernel_rfl
theorem XO:(Rows.topGreatRow.named==Tryz.prog.varsNamed 4)=true:=by kernel_rfl
theorem named:Tryz.pinned.checked.prog.funcNamed Rows.topGreatRow.func=some 4:=by kernel_rfl
theorem closed:joinedFacts Tryz.pinned.checked.prog 4 Tryz.f4 Rows.topGreatSpec Rows.topGreatRow=true:=by show joinedFacts Tryz.prog _ _ _ _=true;unfold joinedFacts;rw[XL,XM,XN,XO];kernel_rfl
theorem Ys:Tryz.f4.isInstance Tryz.pinned.checked.prog Rows.topGreatRow.origin Rows.topGreatRow.targs:=of_decide_eq_true (by kernel_rfl)
theorem aaa:Tryz.f4.isWrapper Tryz.pinned.checked.prog Rows.topGreatRow.wrapper Rows.topGreatRow.mainSum:=by unfold Func.isWrapper;first|(rw[if_pos (by decide+kernel)];kernel_rfl)|(rw[if_neg (by decide+kernel)];exact⟨rfl,rfl⟩)
end topGreat
namespace topGreat
open Go.ChangeShapes Go.WideShapes Go.ChangeAt Go.RowKit
theorem XT:Rows.topGreatRow.wfByText (OpenSpec.ofChange Rows.topGreatSpec)=true:=by kernel_rfl
theorem XQ:Tryz.pinned.checked.prog.mainIs=some (true,"daae70411c7369558de5b0ae4f0bb4717236295ec8a9f36955bada3812362b92".toList):=by kernel_rfl
theorem XP:true=Tryz.pinned.checked.prog.looks []:=by kernel_rfl
theorem XR:([3,3,3,3,3,26].all fun u=> !Tryz.prog.wantsStandIn u)=true:=by kernel_rfl
theorem XS:false=Rows.topGreatRow.goesBy Tryz.pinned.checked.prog:=by kernel_rfl
end topGreat
end Go.Proofs.YtgimnjldndkalaaGreatDoor
