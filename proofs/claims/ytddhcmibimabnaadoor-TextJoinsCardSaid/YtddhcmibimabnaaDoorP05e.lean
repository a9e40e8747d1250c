/- How many lines a text may have. No program in sight. -/
import Derived.Test.YtddhcmibimabnaaDoorP05d
namespace Go.Proofs.YtddhcmibimabnaaDoor.P05
theorem scan_len : ∀ (t : List UInt8) (out a : List (List (List UInt8))) (l : List (List UInt8)) (cur : List UInt8), scan out l cur t = some a → a.length ≤ out.length + t.length
  | [], out, a, l, cur, h => by
    rw [scan] at h
    split at h
    · injection h with h
      subst h
      simp
    · cases h
  | c :: t, out, a, l, cur, h => by
    rw [List.length_cons]
    rw [scan] at h
    split at h
    · split at h
      · have := scan_len t _ _ _ _ h
        omega
      · cases h
    · split at h
      · cases h
      · split at h
        · have := scan_len t _ _ _ _ h
          simp at this
          omega
        · have := scan_len t _ _ _ _ h
          omega
theorem linesP_len {t : List UInt8} {a : List (List (List UInt8))} (h : linesP t = some a) : a.length ≤ t.length := by
  have := scan_len t [] a [] [] h
  simpa using this
end Go.Proofs.YtddhcmibimabnaaDoor.P05
