/- The number of a text: the program, the law. -/
import Derived.Test.YteakffedlojcmaaDoorRead
import Derived.Test.YteakffedlojcmaaDoorErrs
import Derived.Test.YteakffedlojcmaaDoorItoa
namespace Go.Proofs.YteakffedlojcmaaDoor
open Go.RowKit
theorem s_Parse_any (s : ByteArray) (hs : s.size ≤ 1048576) (w : World) : Gv Tryd.prog 21 #[.string s] w (.tuple #[.int .i64 (readF s).1, .bool (readF s).2]) := by
  unfold Gv
  go_enter Tryd.func21, Tryd.ntmps21
  go_wp2_with (go_at_call 44; (first | refine (read_any s hs _).onL ?_ | refine (read_any s hs _).on ?_); intro xq)
  go_ret2
  exact ⟨rfl, (by repeat (with_reducible first | exact hbD | exact Below.refl _ _ | refine bw_later ?_ _ | refine bw_alloc ?_ _ | refine bw_drew ?_ | refine bw_set ?_ (Nat.le_refl _) _ | refine bw_set ?_ ?_ _ | exact Nat.le_refl _ | exact later_size _ _ | refine Nat.le_trans ?_ (later_size _ _) | refine Nat.le_trans ?_ (size_alloc_le _ _) | refine Nat.le_trans ?_ (Nat.le_add_right _ _)))⟩
theorem i_Parse_any (s : ByteArray) (w : World) (ht : Tab w) (he : Ers w) : Gv Tryd.prog 22 #[.string s] w (.tuple #[.int .i64 (readF s).1, .bool (readF s).2]) := by
  unfold Gv
  by_cases h7 : s.size ≤ 7
  rotate_left
  · have hfin := Lib.hid (read_long (s := s) (by omega))
    have h1 : decide ((7 : Int) < (s.size : Int)) = true := by simp; omega
    go_enter Tryd.func22, Tryd.ntmps22
    go_wp2_with fail
    go_ret2
    exact ⟨by rw [hfin.out]; try rfl, (by repeat (with_reducible first | exact hbD | exact Below.refl _ _ | refine bw_later ?_ _ | refine bw_alloc ?_ _ | refine bw_drew ?_ | refine bw_set ?_ (Nat.le_refl _) _ | refine bw_set ?_ ?_ _ | exact Nat.le_refl _ | exact later_size _ _ | refine Nat.le_trans ?_ (later_size _ _) | refine Nat.le_trans ?_ (size_alloc_le _ _) | refine Nat.le_trans ?_ (Nat.le_add_right _ _)))⟩
  have h1 : decide ((7 : Int) < (s.size : Int)) = false := by simp; omega
  cases ha : Lib.atoiAll s.data.toList with
  | ok v =>
    have HA := Lib.hid ha
    clear ha
    cases hI : inB v (-999999) 999999
    · have hfin := Lib.hid (show readF s = (0, false) from read_atoi_no fun u hu u0 u1 => by
        rw [HA.out] at hu
        obtain rfl : v = u := by simpa using hu
        have := inB_f hI
        omega)
      go_enter Tryd.func22, Tryd.ntmps22
      go_wp2_with (first | (go_at_call 45; (first | refine (atoi_ok h7 HA.out _).onL ?_ | refine (atoi_ok h7 HA.out _).on ?_); intro xq) | (go_at_call 34; (first | refine (within_any _ _ _ _).onL ?_ | refine (within_any _ _ _ _).on ?_); intro xq))
      all_goals (go_ret2; exact ⟨by rw [hfin.out]; try rfl, (by repeat (with_reducible first | exact hbD | exact Below.refl _ _ | refine bw_later ?_ _ | refine bw_alloc ?_ _ | refine bw_drew ?_ | refine bw_set ?_ (Nat.le_refl _) _ | refine bw_set ?_ ?_ _ | exact Nat.le_refl _ | exact later_size _ _ | refine Nat.le_trans ?_ (later_size _ _) | refine Nat.le_trans ?_ (size_alloc_le _ _) | refine Nat.le_trans ?_ (Nat.le_add_right _ _)))⟩)
    · obtain ⟨v0, v1⟩ := inB_t hI
      cases hq : ((numB v).toList == s.toList)
      · have hfin := Lib.hid (show readF s = (0, false) from read_atoi_no fun u hu u0 u1 => by
          rw [HA.out] at hu
          obtain rfl : v = u := by simpa using hu
          rw [str_eq] at hq
          simpa using hq)
        go_enter Tryd.func22, Tryd.ntmps22
        go_wp2_with (first | (go_at_call 45; (first | refine (atoi_ok h7 HA.out _).onL ?_ | refine (atoi_ok h7 HA.out _).on ?_); intro xq) | (go_at_call 34; (first | refine (within_any _ _ _ _).onL ?_ | refine (within_any _ _ _ _).on ?_); intro xq) | (go_at_call 35; (first | refine (itoa_any v (by omega) (by omega) _ (by first | exact ht | exact ht.later _)).onL ?_ | refine (itoa_any v (by omega) (by omega) _ (by first | exact ht | exact ht.later _)).on ?_); intro xq))
        all_goals (go_ret2; exact ⟨by rw [hfin.out]; try rfl, (by repeat (with_reducible first | exact hbD | exact Below.refl _ _ | refine bw_later ?_ _ | refine bw_alloc ?_ _ | refine bw_drew ?_ | refine bw_set ?_ (Nat.le_refl _) _ | refine bw_set ?_ ?_ _ | exact Nat.le_refl _ | exact later_size _ _ | refine Nat.le_trans ?_ (later_size _ _) | refine Nat.le_trans ?_ (size_alloc_le _ _) | refine Nat.le_trans ?_ (Nat.le_add_right _ _)))⟩)
      · have hfin := Lib.hid (show readF s = (v, true) from readF_some v0 v1 (by rw [str_eq] at hq; simpa using hq))
        go_enter Tryd.func22, Tryd.ntmps22
        go_wp2_with (first | (go_at_call 45; (first | refine (atoi_ok h7 HA.out _).onL ?_ | refine (atoi_ok h7 HA.out _).on ?_); intro xq) | (go_at_call 34; (first | refine (within_any _ _ _ _).onL ?_ | refine (within_any _ _ _ _).on ?_); intro xq) | (go_at_call 35; (first | refine (itoa_any v (by omega) (by omega) _ (by first | exact ht | exact ht.later _)).onL ?_ | refine (itoa_any v (by omega) (by omega) _ (by first | exact ht | exact ht.later _)).on ?_); intro xq))
        all_goals (go_ret2; exact ⟨by rw [hfin.out]; try rfl, (by repeat (with_reducible first | exact hbD | exact Below.refl _ _ | refine bw_later ?_ _ | refine bw_alloc ?_ _ | refine bw_drew ?_ | refine bw_set ?_ (Nat.le_refl _) _ | refine bw_set ?_ ?_ _ | exact Nat.le_refl _ | exact later_size _ _ | refine Nat.le_trans ?_ (later_size _ _) | refine Nat.le_trans ?_ (size_alloc_le _ _) | refine Nat.le_trans ?_ (Nat.le_add_right _ _)))⟩)
  | range =>
    have hno : ∀ v, Lib.atoiAll s.data.toList ≠ .ok v := fun v e => by rw [ha] at e; cases e
    have hfin := Lib.hid (show readF s = (0, false) from read_atoi_no fun u hu _ _ => absurd hu (hno u))
    clear ha
    have HN := Lib.hid hno
    clear hno
    go_enter Tryd.func22, Tryd.ntmps22
    go_wp2_with (go_at_call 45; refine Calls.mono (atoi_bad h7 HN.out _ he) ?_; rintro _ w1 ⟨⟨v, T, p, rfl⟩, hb⟩; obtain ⟨y, rfl⟩ := exists_later hb; clear hb)
    all_goals (go_ret2; exact ⟨by rw [hfin.out]; try rfl, (by repeat (with_reducible first | exact hbD | exact Below.refl _ _ | refine bw_later ?_ _ | refine bw_alloc ?_ _ | refine bw_drew ?_ | refine bw_set ?_ (Nat.le_refl _) _ | refine bw_set ?_ ?_ _ | exact Nat.le_refl _ | exact later_size _ _ | refine Nat.le_trans ?_ (later_size _ _) | refine Nat.le_trans ?_ (size_alloc_le _ _) | refine Nat.le_trans ?_ (Nat.le_add_right _ _)))⟩)
  | _ =>
    have hno : ∀ v, Lib.atoiAll s.data.toList ≠ .ok v := fun v e => by rw [ha] at e; cases e
    have hfin := Lib.hid (show readF s = (0, false) from read_atoi_no fun u hu _ _ => absurd hu (hno u))
    clear ha
    have HN := Lib.hid hno
    clear hno
    go_enter Tryd.func22, Tryd.ntmps22
    go_wp2_with (go_at_call 45; refine Calls.mono (atoi_bad h7 HN.out _ he) ?_; rintro _ w1 ⟨⟨v, T, p, rfl⟩, hb⟩; obtain ⟨y, rfl⟩ := exists_later hb; clear hb)
    all_goals (go_ret2; exact ⟨by rw [hfin.out]; try rfl, (by repeat (with_reducible first | exact hbD | exact Below.refl _ _ | refine bw_later ?_ _ | refine bw_alloc ?_ _ | refine bw_drew ?_ | refine bw_set ?_ (Nat.le_refl _) _ | refine bw_set ?_ ?_ _ | exact Nat.le_refl _ | exact later_size _ _ | refine Nat.le_trans ?_ (later_size _ _) | refine Nat.le_trans ?_ (size_alloc_le _ _) | refine Nat.le_trans ?_ (Nat.le_add_right _ _)))⟩)
theorem law_ParseInt (a : ByteArray) (w : World) (_h0 : a.size ≤ maxLen) (ht : Tab w) (he : Ers w) : Gv Tryd.prog 7 #[.string a] w (.bool true) := by
  unfold Gv
  by_cases hs : a.size ≤ 1048576
  · have h1 : decide ((1048576 : Int) < (a.size : Int)) = false := by simp; omega
    go_enter Tryd.func7, Tryd.ntmps7
    go_wp2_with (first | (go_at_call 21; (first | refine (s_Parse_any _ hs _).onL ?_ | refine (s_Parse_any _ hs _).on ?_); intro xq) | (go_at_call 22; (first | refine (i_Parse_any _ _ (ht.later _) (he.later _)).onL ?_ | refine (i_Parse_any _ _ (ht.later _) (he.later _)).on ?_); intro xq))
    all_goals (go_ret; exact ⟨rfl, (by repeat (with_reducible first | exact hbD | exact Below.refl _ _ | refine bw_later ?_ _ | refine bw_alloc ?_ _ | refine bw_drew ?_ | refine bw_set ?_ (Nat.le_refl _) _ | refine bw_set ?_ ?_ _ | exact Nat.le_refl _ | exact later_size _ _ | refine Nat.le_trans ?_ (later_size _ _) | refine Nat.le_trans ?_ (size_alloc_le _ _) | refine Nat.le_trans ?_ (Nat.le_add_right _ _)))⟩)
  · have h1 : decide ((1048576 : Int) < (a.size : Int)) = true := by simp; omega
    go_enter Tryd.func7, Tryd.ntmps7
    go_wp2_with fail
    all_goals (go_ret; exact ⟨rfl, (by repeat (with_reducible first | exact hbD | exact Below.refl _ _ | refine bw_later ?_ _ | refine bw_alloc ?_ _ | refine bw_drew ?_ | refine bw_set ?_ (Nat.le_refl _) _ | refine bw_set ?_ ?_ _ | exact Nat.le_refl _ | exact later_size _ _ | refine Nat.le_trans ?_ (later_size _ _) | refine Nat.le_trans ?_ (size_alloc_le _ _) | refine Nat.le_trans ?_ (Nat.le_add_right _ _)))⟩)
end Go.Proofs.YteakffedlojcmaaDoor
