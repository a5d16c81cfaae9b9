/- A load case: its validity. -/
import Derived.Test.YtppgfgklnfpgdaaWithin
import Derived.Test.YtppgfgklnfpgdaaTo
namespace Go.Proofs.Ytppgfgklnfpgdaa
open Go.RowKit
def isCase (r : R3) : Bool := inB r.a 1 1000 && inB r.b 1 1000000 && inB r.c 0 1000
theorem impl_IsLoadCase_any (r : R3) (w : World) : Gv Try.prog 14 #[r.v] w (.bool (isCase r)) := by
  unfold Gv R3.v isCase
  go_enter Try.func14, Try.ntmps14
  go_wp2_with (go_at_call 39; (first | refine (within_any _ _ _ _).onL ?_ | refine (within_any _ _ _ _).on ?_); intro xq)
  all_goals (go_ret; exact ⟨ret_bool (by simp [*]), (by repeat (with_reducible first | exact Below.refl _ _ | refine bw_later ?_ _ | refine bw_alloc ?_ _ | refine bw_drew ?_ | refine bw_set ?_ (Nat.le_refl _) _ | refine bw_set ?_ (by simp) _ | refine bw_set ?_ (by simp; omega) _))⟩)
theorem l6Case_any (r : R3) (w : World) : Gv Try.prog 38 #[r.v] w (.bool (isCase r)) := by
  unfold Gv R3.v isCase
  go_enter Try.func38, Try.ntmps38
  go_wp2_with (first | (go_at_call 40; (first | refine (in_any _ _ _ _).onL ?_ | refine (in_any _ _ _ _).on ?_); intro xq))
  all_goals (go_ret; exact ⟨ret_bool (by simp [*]), (by repeat (with_reducible first | exact Below.refl _ _ | refine bw_later ?_ _ | refine bw_alloc ?_ _ | refine bw_drew ?_ | refine bw_set ?_ (Nat.le_refl _) _ | refine bw_set ?_ (by simp) _ | refine bw_set ?_ (by simp; omega) _))⟩)
theorem spec_IsLoadCase_any (r : R3) (w : World) : Gv Try.prog 12 #[r.v] w (.bool (isCase r)) := by
  unfold Gv R3.v
  go_enter Try.func12, Try.ntmps12
  go_wp2_with (go_at_call 38; (first | refine (l6Case_any r _).onL ?_ | refine (l6Case_any r _).on ?_); intro xq)
  all_goals (go_ret; exact ⟨rfl, (by repeat (with_reducible first | exact Below.refl _ _ | refine bw_later ?_ _ | refine bw_alloc ?_ _ | refine bw_drew ?_ | refine bw_set ?_ (Nat.le_refl _) _ | refine bw_set ?_ (by simp) _ | refine bw_set ?_ (by simp; omega) _))⟩)
theorem law_IsLoadCase (r : R3) (w : World) : Gv Try.prog 3 #[r.v] w (.bool true) := by
  unfold Gv R3.v
  go_enter Try.func3, Try.ntmps3
  go_wp2_with (first | (go_at_call 13; (first | refine (toLoadCase_any r _).onL ?_ | refine (toLoadCase_any r _).on ?_); intro xq; unfold R3.v) | (go_at_call 12; (first | refine (spec_IsLoadCase_any r _).onL ?_ | refine (spec_IsLoadCase_any r _).on ?_); intro xq) | (go_at_call 14; (first | refine (impl_IsLoadCase_any r _).onL ?_ | refine (impl_IsLoadCase_any r _).on ?_); intro xq))
  all_goals (go_ret; exact ⟨rfl, (by repeat (with_reducible first | exact Below.refl _ _ | refine bw_later ?_ _ | refine bw_alloc ?_ _ | refine bw_drew ?_ | refine bw_set ?_ (Nat.le_refl _) _ | refine bw_set ?_ (by simp) _ | refine bw_set ?_ (by simp; omega) _))⟩)
theorem case_bd {r : R3} (h : isCase r = true) : (1 ≤ r.a ∧ r.a ≤ 1000) ∧ (1 ≤ r.b ∧ r.b ≤ 1000000) ∧ (0 ≤ r.c ∧ r.c ≤ 1000) := by
  simp only [isCase, Bool.and_eq_true] at h
  exact ⟨inB_t h.1.1, inB_t h.1.2, inB_t h.2⟩
end Go.Proofs.Ytppgfgklnfpgdaa
