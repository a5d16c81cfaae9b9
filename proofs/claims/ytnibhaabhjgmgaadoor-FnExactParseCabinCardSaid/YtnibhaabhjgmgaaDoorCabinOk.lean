/- A single cabin: its validity. -/
import Derived.Test.YtnibhaabhjgmgaaDoorWithin
import Derived.Test.YtnibhaabhjgmgaaDoorTo
namespace Go.Proofs.YtnibhaabhjgmgaaDoor
open Go.RowKit
theorem l5State_any (n : Int) (w : World) : Gv Tryd.prog 24 #[.int .i64 n] w (.bool (inB n 0 3)) := by
  unfold Gv
  go_enter Tryd.func24, Tryd.ntmps24
  go_wp2_with (go_at_call 23; (first | refine (in_any _ _ _ _).onL ?_ | refine (in_any _ _ _ _).on ?_); intro xq)
  go_ret
  exact ⟨rfl, later_below _ _⟩
def isCabin (r : R5) : Bool := inB r.a 1 99 && inB r.b 1 16 && inB r.c 100 2000 && inB r.d 0 3 && inB r.e 0 99999
theorem impl_IsCabin_any (r : R5) (w : World) : Gv Tryd.prog 13 #[r.v] w (.bool (isCabin r)) := by
  unfold Gv R5.v isCabin
  go_enter Tryd.func13, Tryd.ntmps13
  go_wp2_with (go_at_call 26; (first | refine (within_any _ _ _ _).onL ?_ | refine (within_any _ _ _ _).on ?_); intro xq)
  all_goals (go_ret; exact ⟨ret_bool (by simp [*]), (by repeat (with_reducible first | exact hbD | exact Below.refl _ _ | refine bw_later ?_ _ | refine bw_alloc ?_ _ | refine bw_drew ?_ | refine bw_set ?_ (Nat.le_refl _) _ | refine bw_set ?_ ?_ _ | exact Nat.le_refl _ | exact later_size _ _ | refine Nat.le_trans ?_ (later_size _ _) | refine Nat.le_trans ?_ (size_alloc_le _ _) | refine Nat.le_trans ?_ (Nat.le_add_right _ _)))⟩)
theorem l5One_any (r : R5) (w : World) : Gv Tryd.prog 11 #[r.v] w (.bool (isCabin r)) := by
  unfold Gv R5.v isCabin
  go_enter Tryd.func11, Tryd.ntmps11
  go_wp2_with (first | (go_at_call 23; (first | refine (in_any _ _ _ _).onL ?_ | refine (in_any _ _ _ _).on ?_); intro xq) | (go_at_call 24; (first | refine (l5State_any _ _).onL ?_ | refine (l5State_any _ _).on ?_); intro xq))
  all_goals (go_ret; exact ⟨ret_bool (by simp [*]), (by repeat (with_reducible first | exact hbD | exact Below.refl _ _ | refine bw_later ?_ _ | refine bw_alloc ?_ _ | refine bw_drew ?_ | refine bw_set ?_ (Nat.le_refl _) _ | refine bw_set ?_ ?_ _ | exact Nat.le_refl _ | exact later_size _ _ | refine Nat.le_trans ?_ (later_size _ _) | refine Nat.le_trans ?_ (size_alloc_le _ _) | refine Nat.le_trans ?_ (Nat.le_add_right _ _)))⟩)
theorem cabin_bd {r : R5} (h : isCabin r = true) : (1 ≤ r.a ∧ r.a ≤ 99) ∧ (1 ≤ r.b ∧ r.b ≤ 16) ∧ (100 ≤ r.c ∧ r.c ≤ 2000) ∧ (0 ≤ r.d ∧ r.d ≤ 3) ∧ (0 ≤ r.e ∧ r.e ≤ 99999) := by
  simp only [isCabin, Bool.and_eq_true] at h
  obtain ⟨⟨⟨⟨h1, h2⟩, h3⟩, h4⟩, h5⟩ := h
  exact ⟨inB_t h1, inB_t h2, inB_t h3, inB_t h4, inB_t h5⟩
end Go.Proofs.YtnibhaabhjgmgaaDoor
