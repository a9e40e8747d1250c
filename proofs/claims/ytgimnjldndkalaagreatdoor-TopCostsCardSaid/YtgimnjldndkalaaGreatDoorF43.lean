/- Of the proof of TopCosts: The walks of strings.Builder's copyCheck and WriteString over this program (the shelf's own layings fall here:. -/
import Derived.Shelf.Strings.Builder1
import Derived.Test.YtgimnjldndkalaaGreatDoorRows
import Derived.Test.YtgimnjldndkalaaGreatDoorF0
set_option linter.all false
set_option maxRecDepth 100000
namespace Go.Proofs.YtgimnjldndkalaaGreatDoor

end Go.Proofs.YtgimnjldndkalaaGreatDoor
