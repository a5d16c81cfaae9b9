/- The indices of the elements that meet a condition. No program in sight. -/
import Derived.Test.YtppgfgklnfpgdaaLib
namespace Go.Proofs.Ytppgfgklnfpgdaa
def idxTo {α : Type} (p : α → Bool) (xs : List α) (k : Nat) : List Int := ((List.range k).filter fun i => match xs[i]? with | some r => p r | none => false).map fun i : Nat => (i : Int)
section
variable {α : Type} {p : α → Bool} {xs : List α} {k : Nat} {r : α}
theorem idx_no (hr : xs[k]? = some r) (h : p r = false) : idxTo p xs (k + 1) = idxTo p xs k := by simp [idxTo, List.range_succ, List.filter_append, hr, h]
theorem idx_yes (hr : xs[k]? = some r) (h : p r = true) : idxTo p xs (k + 1) = idxTo p xs k ++ [(k : Int)] := by simp [idxTo, List.range_succ, List.filter_append, hr, h]
theorem idx_len (p : α → Bool) (xs : List α) (k : Nat) : (idxTo p xs k).length ≤ k := by
  simp only [idxTo, List.length_map]
  exact Nat.le_trans (List.length_filter_le _ _) (by simp)
end
end Go.Proofs.Ytppgfgklnfpgdaa
