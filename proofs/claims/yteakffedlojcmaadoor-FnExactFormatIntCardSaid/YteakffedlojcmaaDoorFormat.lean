/- Numbers as text: the program, the reference, the law. -/
import Derived.Test.YteakffedlojcmaaDoorItoa
namespace Go.Proofs.YteakffedlojcmaaDoor
open Go.RowKit
def fmtF (n : Int) : ByteArray × Bool := if inB n (-999999) 999999 then (numB n, true) else (⟨#[]⟩, false)
theorem i_Format_any (n : Int) (w : World) (ht : Tab w) : Gv Tryd.prog 11 #[.int .i64 n] w (.tuple #[.string (fmtF n).1, .bool (fmtF n).2]) := by
  unfold Gv
  cases h : inB n (-999999) 999999
  · have hfin := Lib.hid (show fmtF n = (⟨#[]⟩, false) by simp [fmtF, h])
    go_enter Tryd.func11, Tryd.ntmps11
    go_wp2_with (go_at_call 34; (first | refine (within_any _ _ _ _).onL ?_ | refine (within_any _ _ _ _).on ?_); intro xq)
    all_goals (go_ret2; exact ⟨by rw [hfin.out]; try rfl, (by repeat (with_reducible first | exact Below.refl _ _ | refine bw_later ?_ _ | refine bw_alloc ?_ _ | refine bw_drew ?_ | refine bw_set ?_ (Nat.le_refl _) _ | refine bw_set ?_ ?_ _ | exact Nat.le_refl _ | exact later_size _ _ | refine Nat.le_trans ?_ (later_size _ _) | refine Nat.le_trans ?_ (size_alloc_le _ _) | refine Nat.le_trans ?_ (Nat.le_add_right _ _)))⟩)
  · have hfin := Lib.hid (show fmtF n = (numB n, true) by simp [fmtF, h])
    obtain ⟨h1, h2⟩ := inB_t h
    go_enter Tryd.func11, Tryd.ntmps11
    go_wp2_with (first | (go_at_call 34; (first | refine (within_any _ _ _ _).onL ?_ | refine (within_any _ _ _ _).on ?_); intro xq) | (go_at_call 35; (first | refine (itoa_any n (by omega) (by omega) _ (by first | exact ht | exact ht.later _)).onL ?_ | refine (itoa_any n (by omega) (by omega) _ (by first | exact ht | exact ht.later _)).on ?_); intro xq))
    all_goals (go_ret2; exact ⟨by rw [hfin.out]; try rfl, (by repeat (with_reducible first | exact Below.refl _ _ | refine bw_later ?_ _ | refine bw_alloc ?_ _ | refine bw_drew ?_ | refine bw_set ?_ (Nat.le_refl _) _ | refine bw_set ?_ ?_ _ | exact Nat.le_refl _ | exact later_size _ _ | refine Nat.le_trans ?_ (later_size _ _) | refine Nat.le_trans ?_ (size_alloc_le _ _) | refine Nat.le_trans ?_ (Nat.le_add_right _ _)))⟩)
theorem s_Format_any (n : Int) (w : World)  : Gv Tryd.prog 10 #[.int .i64 n] w (.tuple #[.string (fmtF n).1, .bool (fmtF n).2]) := by
  unfold Gv
  cases h : inB n (-999999) 999999
  · have hfin := Lib.hid (show fmtF n = (⟨#[]⟩, false) by simp [fmtF, h])
    go_enter Tryd.func10, Tryd.ntmps10
    go_wp2_with (go_at_call 32; (first | refine (in_any _ _ _ _).onL ?_ | refine (in_any _ _ _ _).on ?_); intro xq)
    all_goals (go_ret2; exact ⟨by rw [hfin.out]; try rfl, (by repeat (with_reducible first | exact Below.refl _ _ | refine bw_later ?_ _ | refine bw_alloc ?_ _ | refine bw_drew ?_ | refine bw_set ?_ (Nat.le_refl _) _ | refine bw_set ?_ ?_ _ | exact Nat.le_refl _ | exact later_size _ _ | refine Nat.le_trans ?_ (later_size _ _) | refine Nat.le_trans ?_ (size_alloc_le _ _) | refine Nat.le_trans ?_ (Nat.le_add_right _ _)))⟩)
  · have hfin := Lib.hid (show fmtF n = (numB n, true) by simp [fmtF, h])
    obtain ⟨h1, h2⟩ := inB_t h
    go_enter Tryd.func10, Tryd.ntmps10
    go_wp2_with (first | (go_at_call 32; (first | refine (in_any _ _ _ _).onL ?_ | refine (in_any _ _ _ _).on ?_); intro xq) | (go_at_call 33; (first | refine (num_any n (by omega) (by omega) _).onL ?_ | refine (num_any n (by omega) (by omega) _).on ?_); intro xq))
    all_goals (go_ret2; exact ⟨by rw [hfin.out]; try rfl, (by repeat (with_reducible first | exact Below.refl _ _ | refine bw_later ?_ _ | refine bw_alloc ?_ _ | refine bw_drew ?_ | refine bw_set ?_ (Nat.le_refl _) _ | refine bw_set ?_ ?_ _ | exact Nat.le_refl _ | exact later_size _ _ | refine Nat.le_trans ?_ (later_size _ _) | refine Nat.le_trans ?_ (size_alloc_le _ _) | refine Nat.le_trans ?_ (Nat.le_add_right _ _)))⟩)
theorem law_FormatInt (n : Int) (w : World) (_h0 : I64 n) (ht : Tab w) : Gv Tryd.prog 3 #[.int .i64 n] w (.bool true) := by
  unfold Gv
  go_enter Tryd.func3, Tryd.ntmps3
  go_wp2_with (first | (go_at_call 10; (first | refine (s_Format_any _ _).onL ?_ | refine (s_Format_any _ _).on ?_); intro xq) | (go_at_call 11; (first | refine (i_Format_any _ _ (ht.later _)).onL ?_ | refine (i_Format_any _ _ (ht.later _)).on ?_); intro xq))
  all_goals (go_ret; exact ⟨rfl, (by repeat (with_reducible first | exact Below.refl _ _ | refine bw_later ?_ _ | refine bw_alloc ?_ _ | refine bw_drew ?_ | refine bw_set ?_ (Nat.le_refl _) _ | refine bw_set ?_ ?_ _ | exact Nat.le_refl _ | exact later_size _ _ | refine Nat.le_trans ?_ (later_size _ _) | refine Nat.le_trans ?_ (size_alloc_le _ _) | refine Nat.le_trans ?_ (Nat.le_add_right _ _)))⟩)
end Go.Proofs.YteakffedlojcmaaDoor
