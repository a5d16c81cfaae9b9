/- The checksum of a string: the program, the reference, the law. -/
import Derived.Test.YteakffedlojcmaaSum
namespace Go.Proofs.Yteakffedlojcmaa
open Go.RowKit
def sumF (s : ByteArray) : Int × Bool := if s.size ≤ 4000 then (ckOf s.data.toList, true) else (0, false)
theorem i_Sum_any (s : ByteArray) (w : World) : Gv Try.prog 10 #[.string s] w (.tuple #[.int .i64 (sumF s).1, .bool (sumF s).2]) := by
  unfold Gv
  by_cases h : s.size ≤ 4000
  · have hfin := Lib.hid (show sumF s = (ckOf s.data.toList, true) by simp [sumF, h])
    go_enter Try.func10, Try.ntmps10
    go_wp2_with (first | (go_at_call 17; (first | refine (i_sum_any s _ h).onL ?_ | refine (i_sum_any s _ h).on ?_); intro xq))
    all_goals (go_ret2; exact ⟨by rw [hfin.out]; try rfl, (by repeat (with_reducible first | exact Below.refl _ _ | refine bw_later ?_ _ | refine bw_alloc ?_ _ | refine bw_drew ?_ | refine bw_set ?_ (Nat.le_refl _) _ | refine bw_set ?_ ?_ _ | exact Nat.le_refl _ | exact later_size _ _ | refine Nat.le_trans ?_ (later_size _ _) | refine Nat.le_trans ?_ (size_alloc_le _ _) | refine Nat.le_trans ?_ (Nat.le_add_right _ _)))⟩)
  · have hfin := Lib.hid (show sumF s = (0, false) by simp [sumF, h])
    have h2 : 4000 < s.size := by omega
    go_enter Try.func10, Try.ntmps10
    go_wp2_with fail
    all_goals (go_ret2; exact ⟨by rw [hfin.out]; try rfl, (by repeat (with_reducible first | exact Below.refl _ _ | refine bw_later ?_ _ | refine bw_alloc ?_ _ | refine bw_drew ?_ | refine bw_set ?_ (Nat.le_refl _) _ | refine bw_set ?_ ?_ _ | exact Nat.le_refl _ | exact later_size _ _ | refine Nat.le_trans ?_ (later_size _ _) | refine Nat.le_trans ?_ (size_alloc_le _ _) | refine Nat.le_trans ?_ (Nat.le_add_right _ _)))⟩)
theorem s_Sum_any (s : ByteArray) (w : World) : Gv Try.prog 9 #[.string s] w (.tuple #[.int .i64 (sumF s).1, .bool (sumF s).2]) := by
  unfold Gv
  by_cases h : s.size ≤ 4000
  · have hfin := Lib.hid (show sumF s = (ckOf s.data.toList, true) by simp [sumF, h])
    go_enter Try.func9, Try.ntmps9
    go_wp2_with (first | (go_at_call 16; (first | refine (s_sum_any s _ h).onL ?_ | refine (s_sum_any s _ h).on ?_); intro xq))
    all_goals (go_ret2; exact ⟨by rw [hfin.out]; try rfl, (by repeat (with_reducible first | exact Below.refl _ _ | refine bw_later ?_ _ | refine bw_alloc ?_ _ | refine bw_drew ?_ | refine bw_set ?_ (Nat.le_refl _) _ | refine bw_set ?_ ?_ _ | exact Nat.le_refl _ | exact later_size _ _ | refine Nat.le_trans ?_ (later_size _ _) | refine Nat.le_trans ?_ (size_alloc_le _ _) | refine Nat.le_trans ?_ (Nat.le_add_right _ _)))⟩)
  · have hfin := Lib.hid (show sumF s = (0, false) by simp [sumF, h])
    have h2 : 4000 < s.size := by omega
    go_enter Try.func9, Try.ntmps9
    go_wp2_with fail
    all_goals (go_ret2; exact ⟨by rw [hfin.out]; try rfl, (by repeat (with_reducible first | exact Below.refl _ _ | refine bw_later ?_ _ | refine bw_alloc ?_ _ | refine bw_drew ?_ | refine bw_set ?_ (Nat.le_refl _) _ | refine bw_set ?_ ?_ _ | exact Nat.le_refl _ | exact later_size _ _ | refine Nat.le_trans ?_ (later_size _ _) | refine Nat.le_trans ?_ (size_alloc_le _ _) | refine Nat.le_trans ?_ (Nat.le_add_right _ _)))⟩)
theorem law_Checksum (a : ByteArray) (w : World) (_h0 : a.size ≤ maxLen) : Gv Try.prog 5 #[.string a] w (.bool true) := by
  unfold Gv
  go_enter Try.func5, Try.ntmps5
  go_wp2_with (first | (go_at_call 9; (first | refine (s_Sum_any _ _).onL ?_ | refine (s_Sum_any _ _).on ?_); intro xq) | (go_at_call 10; (first | refine (i_Sum_any _ _).onL ?_ | refine (i_Sum_any _ _).on ?_); intro xq))
  all_goals (go_ret; exact ⟨rfl, (by repeat (with_reducible first | exact Below.refl _ _ | refine bw_later ?_ _ | refine bw_alloc ?_ _ | refine bw_drew ?_ | refine bw_set ?_ (Nat.le_refl _) _ | refine bw_set ?_ ?_ _ | exact Nat.le_refl _ | exact later_size _ _ | refine Nat.le_trans ?_ (later_size _ _) | refine Nat.le_trans ?_ (size_alloc_le _ _) | refine Nat.le_trans ?_ (Nat.le_add_right _ _)))⟩)
end Go.Proofs.Yteakffedlojcmaa
