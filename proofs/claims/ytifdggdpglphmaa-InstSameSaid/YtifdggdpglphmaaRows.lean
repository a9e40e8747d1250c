/-
  No cell of these rows narrows 'for every input' (looked for: loops, veiled, ifaces, maps, wideKeys, modest, calm, conditions, laid).
  DERIVED. THE GIVEN ROWS OF THIS SEAT. 6 by the template 'for every input the law returns true; each argument reads behind the call as it read before'; 0 by the template 'total and deterministic' (their statements: YtifdggdpglphmaaTotals.lean).
  GIVEN WITH THE SEED: the statements are not yours to turn. If you find one false, say at which input.
  Laid BY PROGRAM, IN A SANDBOX (cutbox-rows.mjs): the forced cells as the released guide's own fill.sh prints them over the translation 141c84c89015d287… (all of the seat's roots in one cut). By AI agents, Wed Nov 11 2026. No macro, syntax, notation, axiom, sorry.
-/
import Derived.Test.YtifdggdpglphmaaChecked
import GoSem.Claim
import GoSem.ClaimJoined
import GoSem.ClaimMapViews
import Derived.JoinedTies
import Derived.KernelRfl
namespace Go.Proofs.Ytifdggdpglphmaa
/- THE CELL 'sum', in the pinned program and in every row, IS THE sha256 OF THE DUMP (.gsa) THAT YtifdggdpglphmaaProg.lean LOADS. Nothing in Lean hashes anything: it is a label: what it is worth is what the hold of that sum in a sandbox is worth. -/
noncomputable def Try.pinned : Pinned := { name := "ytifdggdpglphmaa", sum := "141c84c89015d287c96fa4db83df26f1f30250ba699dd9d491d35357e69127f1", checked := Try.checked }
namespace Rows
def none {H : Type} : Left H := { results := [], args := [] }

/-- 'tranterlaw06.InstMay': WHATEVER THE INPUT: true; the input reads as it did. -/
def instMaySpec : ChangeSpec := { name := "instMay", fn := fun _ => fun
  | [d1, d2, d3] => { results := [.lit (.bool true)], args := [d1, d2, d3] }
  | _ => none }
def instMayRow : OpenClaim := { program := "ytifdggdpglphmaa", sum := "141c84c89015d287c96fa4db83df26f1f30250ba699dd9d491d35357e69127f1", func := "tranter/tranterlaw06.InstMay", spec := "instMay", unfollowed := true, recurses := true, apart := false }
def InstMaySaid : Prop := instMayRow.holds Try.pinned (OpenSpec.ofChange instMaySpec)

/-- ITS FALSE NEIGHBOUR: 'it returns false'. Refute it at one input. -/
def instMayWrong : ChangeSpec := { name := "instMay", fn := fun _ => fun
  | [d1, d2, d3] => { results := [.lit (.bool false)], args := [d1, d2, d3] }
  | _ => none }
def InstMayWrongFalsely : Prop := instMayRow.holds Try.pinned (OpenSpec.ofChange instMayWrong)

/-- 'tranterlaw06.InstWays': WHATEVER THE INPUT: true; the input reads as it did. -/
def instWaysSpec : ChangeSpec := { name := "instWays", fn := fun _ => fun
  | [d1, d2, d3, d4] => { results := [.lit (.bool true)], args := [d1, d2, d3, d4] }
  | _ => none }
def instWaysRow : OpenClaim := { program := "ytifdggdpglphmaa", sum := "141c84c89015d287c96fa4db83df26f1f30250ba699dd9d491d35357e69127f1", func := "tranter/tranterlaw06.InstWays", spec := "instWays", unfollowed := true, recurses := true, apart := false }
def InstWaysSaid : Prop := instWaysRow.holds Try.pinned (OpenSpec.ofChange instWaysSpec)

/-- ITS FALSE NEIGHBOUR: 'it returns false'. Refute it at one input. -/
def instWaysWrong : ChangeSpec := { name := "instWays", fn := fun _ => fun
  | [d1, d2, d3, d4] => { results := [.lit (.bool false)], args := [d1, d2, d3, d4] }
  | _ => none }
def InstWaysWrongFalsely : Prop := instWaysRow.holds Try.pinned (OpenSpec.ofChange instWaysWrong)

/-- 'tranterlaw06.InstParts': WHATEVER THE INPUT: true; the input reads as it did. -/
def instPartsSpec : ChangeSpec := { name := "instParts", fn := fun _ => fun
  | [d1, d2, d3] => { results := [.lit (.bool true)], args := [d1, d2, d3] }
  | _ => none }
def instPartsRow : OpenClaim := { program := "ytifdggdpglphmaa", sum := "141c84c89015d287c96fa4db83df26f1f30250ba699dd9d491d35357e69127f1", func := "tranter/tranterlaw06.InstParts", spec := "instParts", unfollowed := true, recurses := true, apart := false }
def InstPartsSaid : Prop := instPartsRow.holds Try.pinned (OpenSpec.ofChange instPartsSpec)

/-- ITS FALSE NEIGHBOUR: 'it returns false'. Refute it at one input. -/
def instPartsWrong : ChangeSpec := { name := "instParts", fn := fun _ => fun
  | [d1, d2, d3] => { results := [.lit (.bool false)], args := [d1, d2, d3] }
  | _ => none }
def InstPartsWrongFalsely : Prop := instPartsRow.holds Try.pinned (OpenSpec.ofChange instPartsWrong)

/-- 'tranterlaw06.InstCheap': WHATEVER THE INPUT: true; the input reads as it did. -/
def instCheapSpec : ChangeSpec := { name := "instCheap", fn := fun _ => fun
  | [d] => { results := [.lit (.bool true)], args := [d] }
  | _ => none }
def instCheapRow : OpenClaim := { program := "ytifdggdpglphmaa", sum := "141c84c89015d287c96fa4db83df26f1f30250ba699dd9d491d35357e69127f1", func := "tranter/tranterlaw06.InstCheap", spec := "instCheap", unfollowed := true, recurses := true, apart := false }
def InstCheapSaid : Prop := instCheapRow.holds Try.pinned (OpenSpec.ofChange instCheapSpec)

/-- ITS FALSE NEIGHBOUR: 'it returns false'. Refute it at one input. -/
def instCheapWrong : ChangeSpec := { name := "instCheap", fn := fun _ => fun
  | [d] => { results := [.lit (.bool false)], args := [d] }
  | _ => none }
def InstCheapWrongFalsely : Prop := instCheapRow.holds Try.pinned (OpenSpec.ofChange instCheapWrong)

/-- 'tranterlaw06.InstLeast': WHATEVER THE INPUT: true; the input reads as it did. -/
def instLeastSpec : ChangeSpec := { name := "instLeast", fn := fun _ => fun
  | [d1, d2] => { results := [.lit (.bool true)], args := [d1, d2] }
  | _ => none }
def instLeastRow : OpenClaim := { program := "ytifdggdpglphmaa", sum := "141c84c89015d287c96fa4db83df26f1f30250ba699dd9d491d35357e69127f1", func := "tranter/tranterlaw06.InstLeast", spec := "instLeast", unfollowed := true, recurses := true, apart := false }
def InstLeastSaid : Prop := instLeastRow.holds Try.pinned (OpenSpec.ofChange instLeastSpec)

/-- ITS FALSE NEIGHBOUR: 'it returns false'. Refute it at one input. -/
def instLeastWrong : ChangeSpec := { name := "instLeast", fn := fun _ => fun
  | [d1, d2] => { results := [.lit (.bool false)], args := [d1, d2] }
  | _ => none }
def InstLeastWrongFalsely : Prop := instLeastRow.holds Try.pinned (OpenSpec.ofChange instLeastWrong)

/-- 'tranterlaw06.InstSame': WHATEVER THE INPUT: true; the input reads as it did. -/
def instSameSpec : ChangeSpec := { name := "instSame", fn := fun _ => fun
  | [d1, d2] => { results := [.lit (.bool true)], args := [d1, d2] }
  | _ => none }
def instSameRow : OpenClaim := { program := "ytifdggdpglphmaa", sum := "141c84c89015d287c96fa4db83df26f1f30250ba699dd9d491d35357e69127f1", func := "tranter/tranterlaw06.InstSame", spec := "instSame", unfollowed := true, recurses := true, apart := false }
def InstSameSaid : Prop := instSameRow.holds Try.pinned (OpenSpec.ofChange instSameSpec)

/-- ITS FALSE NEIGHBOUR: 'it returns false'. Refute it at one input. -/
def instSameWrong : ChangeSpec := { name := "instSame", fn := fun _ => fun
  | [d1, d2] => { results := [.lit (.bool false)], args := [d1, d2] }
  | _ => none }
def InstSameWrongFalsely : Prop := instSameRow.holds Try.pinned (OpenSpec.ofChange instSameWrong)

/- THE SECOND FORM. 'bulk': how many values and letters a reading holds, each counted each time it is reached (what is shared counts as often as it is met; a slice's spare places count too). A statement '..UptoSaid' is the law's where the arguments, and the package variables that the reading takes, are together of bulk at most 1048576: NARROWER than '..Said'. Prove '..Said' where nothing that the law and all that it calls make is longer than what came in: it says more and counts as full. Else prove '..UptoSaid'. A law counts once. -/
mutual
def uptoBulk {H : Type} : DataW H → Nat
  | .lit (.string bytes) => bytes.length + 1
  | .lit _ => 1
  | .nil => 1
  | .ptr d => uptoBulk d + 1
  | .slice elems spare => uptoBulkAll elems + uptoBulkAll spare + 1
  | .agg parts => uptoBulkAll parts + 1
  | .iface _ d => uptoBulk d + 1
  | .map entries => uptoBulkEntries entries + 1
  | .held _ => 1
def uptoBulkAll {H : Type} : List (DataW H) → Nat
  | [] => 0
  | d :: r => uptoBulk d + uptoBulkAll r
def uptoBulkEntries {H : Type} : List (Lit × DataW H) → Nat
  | [] => 0
  | x :: r => uptoBulkEntry x + uptoBulkEntries r
def uptoBulkEntry {H : Type} : Lit × DataW H → Nat
  | (.string bytes, d) => bytes.length + uptoBulk d + 1
  | (_, d) => uptoBulk d + 1
 end
def uptoSmall : (H : Type) → List (DataW H) → Bool := fun _ ds => decide (uptoBulkAll ds ≤ 1048576)
def OpenSpec.upto (s : _root_.Go.ChangeSpec) : _root_.Go.OpenSpec := { _root_.Go.OpenSpec.ofChange s with cond := some uptoSmall }

/-- 'tranterlaw06.InstMay', WHERE WHAT IT READS IS OF BULK AT MOST 1048576: true; the input reads as it did. -/
def instMayUptoRow : OpenClaim := { program := "ytifdggdpglphmaa", sum := "141c84c89015d287c96fa4db83df26f1f30250ba699dd9d491d35357e69127f1", func := "tranter/tranterlaw06.InstMay", spec := "instMay", unfollowed := true, recurses := true, apart := false, narrowed := true }
def InstMayUptoSaid : Prop := instMayUptoRow.holds Try.pinned (OpenSpec.upto instMaySpec)

/-- 'tranterlaw06.InstWays', WHERE WHAT IT READS IS OF BULK AT MOST 1048576: true; the input reads as it did. -/
def instWaysUptoRow : OpenClaim := { program := "ytifdggdpglphmaa", sum := "141c84c89015d287c96fa4db83df26f1f30250ba699dd9d491d35357e69127f1", func := "tranter/tranterlaw06.InstWays", spec := "instWays", unfollowed := true, recurses := true, apart := false, narrowed := true }
def InstWaysUptoSaid : Prop := instWaysUptoRow.holds Try.pinned (OpenSpec.upto instWaysSpec)

/-- 'tranterlaw06.InstParts', WHERE WHAT IT READS IS OF BULK AT MOST 1048576: true; the input reads as it did. -/
def instPartsUptoRow : OpenClaim := { program := "ytifdggdpglphmaa", sum := "141c84c89015d287c96fa4db83df26f1f30250ba699dd9d491d35357e69127f1", func := "tranter/tranterlaw06.InstParts", spec := "instParts", unfollowed := true, recurses := true, apart := false, narrowed := true }
def InstPartsUptoSaid : Prop := instPartsUptoRow.holds Try.pinned (OpenSpec.upto instPartsSpec)

/-- 'tranterlaw06.InstCheap', WHERE WHAT IT READS IS OF BULK AT MOST 1048576: true; the input reads as it did. -/
def instCheapUptoRow : OpenClaim := { program := "ytifdggdpglphmaa", sum := "141c84c89015d287c96fa4db83df26f1f30250ba699dd9d491d35357e69127f1", func := "tranter/tranterlaw06.InstCheap", spec := "instCheap", unfollowed := true, recurses := true, apart := false, narrowed := true }
def InstCheapUptoSaid : Prop := instCheapUptoRow.holds Try.pinned (OpenSpec.upto instCheapSpec)

/-- 'tranterlaw06.InstLeast', WHERE WHAT IT READS IS OF BULK AT MOST 1048576: true; the input reads as it did. -/
def instLeastUptoRow : OpenClaim := { program := "ytifdggdpglphmaa", sum := "141c84c89015d287c96fa4db83df26f1f30250ba699dd9d491d35357e69127f1", func := "tranter/tranterlaw06.InstLeast", spec := "instLeast", unfollowed := true, recurses := true, apart := false, narrowed := true }
def InstLeastUptoSaid : Prop := instLeastUptoRow.holds Try.pinned (OpenSpec.upto instLeastSpec)

/-- 'tranterlaw06.InstSame', WHERE WHAT IT READS IS OF BULK AT MOST 1048576: true; the input reads as it did. -/
def instSameUptoRow : OpenClaim := { program := "ytifdggdpglphmaa", sum := "141c84c89015d287c96fa4db83df26f1f30250ba699dd9d491d35357e69127f1", func := "tranter/tranterlaw06.InstSame", spec := "instSame", unfollowed := true, recurses := true, apart := false, narrowed := true }
def InstSameUptoSaid : Prop := instSameUptoRow.holds Try.pinned (OpenSpec.upto instSameSpec)

end Rows
end Go.Proofs.Ytifdggdpglphmaa
