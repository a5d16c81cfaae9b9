/- The laws' helpers over structs and slices of structs: copies, sizes, comparisons. -/
import Derived.Test.YtnibhaabhjgmgaaDoorRows
import Derived.Test.YtnibhaabhjgmgaaDoorStructs
namespace Go.Proofs.YtnibhaabhjgmgaaDoor
open Go.RowKit
theorem toCabin_any (r : R5) (w : World) : Gv Tryd.prog 6 #[r.v] w r.v := by
  unfold Gv R5.v
  go_enter Tryd.func6, Tryd.ntmps6
  go_wp2
  exact bodyPost_ret (by simp [results, Tryd.results6, go_sem]) rfl ⟨rfl, (by repeat (with_reducible first | exact hbD | exact Below.refl _ _ | refine bw_later ?_ _ | refine bw_alloc ?_ _ | refine bw_drew ?_ | refine bw_set ?_ (Nat.le_refl _) _ | refine bw_set ?_ ?_ _ | exact Nat.le_refl _ | exact later_size _ _ | refine Nat.le_trans ?_ (later_size _ _) | refine Nat.le_trans ?_ (size_alloc_le _ _) | refine Nat.le_trans ?_ (Nat.le_add_right _ _)))⟩
theorem eqCabin_any (r q : R5) (w : World) : Gv Tryd.prog 10 #[r.v, q.v] w (.bool (decide (r = q))) := by
  unfold Gv R5.v
  go_enter Tryd.func10, Tryd.ntmps10
  go_wp2
  all_goals (go_ret; exact ⟨ret_bool (by go_tidy; simp_all [R5.eq_iff]), (by repeat (with_reducible first | exact hbD | exact Below.refl _ _ | refine bw_later ?_ _ | refine bw_alloc ?_ _ | refine bw_drew ?_ | refine bw_set ?_ (Nat.le_refl _) _ | refine bw_set ?_ ?_ _ | exact Nat.le_refl _ | exact later_size _ _ | refine Nat.le_trans ?_ (later_size _ _) | refine Nat.le_trans ?_ (size_alloc_le _ _) | refine Nat.le_trans ?_ (Nat.le_add_right _ _)))⟩)
end Go.Proofs.YtnibhaabhjgmgaaDoor
