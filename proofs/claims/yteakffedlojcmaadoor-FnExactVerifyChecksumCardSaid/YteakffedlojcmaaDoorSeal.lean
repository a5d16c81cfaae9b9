/- A string with its checksum. -/
import Derived.Test.YteakffedlojcmaaDoorItoa
import Derived.Test.YteakffedlojcmaaDoorSum
import Derived.Test.YteakffedlojcmaaDoorContains
namespace Go.Proofs.YteakffedlojcmaaDoor
open Go.RowKit
def sealB (s : ByteArray) : ByteArray := s ++ ⟨#[35]⟩ ++ numB (ckOf s.data.toList)
theorem ck_bd (l : List UInt8) : 0 ≤ ckOf l ∧ ckOf l < 999979 := by
  have : ∀ (l : List UInt8) (h : Int), 0 ≤ h → h < 999979 → 0 ≤ l.foldl ckStep h ∧ l.foldl ckStep h < 999979 := by
    intro l
    induction l with
    | nil => intro h h0 h1; exact ⟨h0, h1⟩
    | cons b l ih =>
      intro h h0 h1
      obtain ⟨d0, d1⟩ := ckStep_bd b h0 h1
      exact ih _ d0 d1
  exact this l 7 (by omega) (by omega)
theorem sealB_size (s : ByteArray) : (sealB s).size = s.size + 1 + (numB (ckOf s.data.toList)).size := by
  unfold sealB
  rw [ByteArray.size_append, ByteArray.size_append]
  rfl
theorem seal_any (s : ByteArray) (hs : s.size ≤ 4000) (w : World) : Gv Tryd.prog 40 #[.string s] w (.string (sealB s)) := by
  unfold Gv
  obtain ⟨c0, c1⟩ := ck_bd s.data.toList
  have hz0 := numB_size (n := ckOf s.data.toList) (by omega) (by omega)
  have hz1 : ¬ 9223372036854775807 < s.size + 1 := by omega
  have hz2 : ¬ 9223372036854775807 < s.size + 1 + (numB (ckOf s.data.toList)).size := by omega
  go_enter Tryd.func40, Tryd.ntmps40
  go_wp2_with (first | (go_at_call 55; (first | refine (s_sum_any s _ hs).onL ?_ | refine (s_sum_any s _ hs).on ?_); intro xq) | (go_at_call 33; (first | refine (num_any (ckOf s.data.toList) (by omega) (by omega) _).onL ?_ | refine (num_any (ckOf s.data.toList) (by omega) (by omega) _).on ?_); intro xq))
  go_ret
  exact ⟨rfl, (by repeat (with_reducible first | exact Below.refl _ _ | refine bw_later ?_ _ | refine bw_alloc ?_ _ | refine bw_drew ?_ | refine bw_set ?_ (Nat.le_refl _) _ | refine bw_set ?_ ?_ _ | exact Nat.le_refl _ | exact later_size _ _ | refine Nat.le_trans ?_ (later_size _ _) | refine Nat.le_trans ?_ (size_alloc_le _ _) | refine Nat.le_trans ?_ (Nat.le_add_right _ _)))⟩
def appF (s : ByteArray) : ByteArray × Bool := if s.size ≤ 4000 ∧ hasB s 35 = false ∧ (sealB s).size ≤ 4000 then (sealB s, true) else (⟨#[]⟩, false)
theorem i_Append_any (s : ByteArray) (w : World) (ht : Tab w) : Gv Tryd.prog 18 #[.string s] w (.tuple #[.string (appF s).1, .bool (appF s).2]) := by
  unfold Gv
  by_cases h1 : s.size ≤ 4000
  rotate_left
  · have hfin := Lib.hid (show appF s = (⟨#[]⟩, false) by simp [appF, h1])
    have h2 : 4000 < s.size := by omega
    go_enter Tryd.func18, Tryd.ntmps18
    go_wp2_with fail
    all_goals (go_ret2; exact ⟨by rw [hfin.out]; try rfl, (by repeat (with_reducible first | exact Below.refl _ _ | refine bw_later ?_ _ | refine bw_alloc ?_ _ | refine bw_drew ?_ | refine bw_set ?_ (Nat.le_refl _) _ | refine bw_set ?_ ?_ _ | exact Nat.le_refl _ | exact later_size _ _ | refine Nat.le_trans ?_ (later_size _ _) | refine Nat.le_trans ?_ (size_alloc_le _ _) | refine Nat.le_trans ?_ (Nat.le_add_right _ _)))⟩)
  have h1' : decide (4000 < (s.size : Int)) = false := by simp; omega
  cases h3 : hasB s 35
  rotate_left
  · have hfin := Lib.hid (show appF s = (⟨#[]⟩, false) by simp [appF, h3])
    go_enter Tryd.func18, Tryd.ntmps18
    go_wp2_with (first | (go_at_call 41; (first | refine (contains_any s 35 _).onL ?_ | refine (contains_any s 35 _).on ?_); intro xq) | (go_at_call 42; (first | refine (i_sum_any s _ h1).onL ?_ | refine (i_sum_any s _ h1).on ?_); intro xq) | (go_at_call 35; (first | refine (itoa_any (ckOf s.data.toList) (by omega) (by omega) _ (by first | exact ht | exact ht.later _)).onL ?_ | refine (itoa_any (ckOf s.data.toList) (by omega) (by omega) _ (by first | exact ht | exact ht.later _)).on ?_); intro xq))
    all_goals (go_ret2; exact ⟨by rw [hfin.out]; try rfl, (by repeat (with_reducible first | exact Below.refl _ _ | refine bw_later ?_ _ | refine bw_alloc ?_ _ | refine bw_drew ?_ | refine bw_set ?_ (Nat.le_refl _) _ | refine bw_set ?_ ?_ _ | exact Nat.le_refl _ | exact later_size _ _ | refine Nat.le_trans ?_ (later_size _ _) | refine Nat.le_trans ?_ (size_alloc_le _ _) | refine Nat.le_trans ?_ (Nat.le_add_right _ _)))⟩)
  obtain ⟨c0, c1⟩ := ck_bd s.data.toList
  have hz0 := numB_size (n := ckOf s.data.toList) (by omega) (by omega)
  have hz1 : ¬ 9223372036854775807 < s.size + 1 := by omega
  have hz2 : ¬ 9223372036854775807 < s.size + 1 + (numB (ckOf s.data.toList)).size := by omega
  have es := sealB_size s
  by_cases h4 : (sealB s).size ≤ 4000
  · have hfin := Lib.hid (show appF s = (sealB s, true) by simp [appF, h1, h3, h4])
    have h5 : decide ((4000 : Int) < (s.size : Int) + 1 + ((numB (ckOf s.data.toList)).size : Int)) = false := by simp; omega
    have h6 : decide ((4000 : Int) < ((sealB s).size : Int)) = false := by simp; omega
    go_enter Tryd.func18, Tryd.ntmps18
    go_wp2_with (first | (go_at_call 41; (first | refine (contains_any s 35 _).onL ?_ | refine (contains_any s 35 _).on ?_); intro xq) | (go_at_call 42; (first | refine (i_sum_any s _ h1).onL ?_ | refine (i_sum_any s _ h1).on ?_); intro xq) | (go_at_call 35; (first | refine (itoa_any (ckOf s.data.toList) (by omega) (by omega) _ (by first | exact ht | exact ht.later _)).onL ?_ | refine (itoa_any (ckOf s.data.toList) (by omega) (by omega) _ (by first | exact ht | exact ht.later _)).on ?_); intro xq))
    all_goals (go_ret2; exact ⟨by rw [hfin.out]; try rfl, (by repeat (with_reducible first | exact Below.refl _ _ | refine bw_later ?_ _ | refine bw_alloc ?_ _ | refine bw_drew ?_ | refine bw_set ?_ (Nat.le_refl _) _ | refine bw_set ?_ ?_ _ | exact Nat.le_refl _ | exact later_size _ _ | refine Nat.le_trans ?_ (later_size _ _) | refine Nat.le_trans ?_ (size_alloc_le _ _) | refine Nat.le_trans ?_ (Nat.le_add_right _ _)))⟩)
  · have hfin := Lib.hid (show appF s = (⟨#[]⟩, false) by simp [appF, h4])
    have h5 : decide ((4000 : Int) < (s.size : Int) + 1 + ((numB (ckOf s.data.toList)).size : Int)) = true := by simp; omega
    have h6 : decide ((4000 : Int) < ((sealB s).size : Int)) = true := by simp; omega
    go_enter Tryd.func18, Tryd.ntmps18
    go_wp2_with (first | (go_at_call 41; (first | refine (contains_any s 35 _).onL ?_ | refine (contains_any s 35 _).on ?_); intro xq) | (go_at_call 42; (first | refine (i_sum_any s _ h1).onL ?_ | refine (i_sum_any s _ h1).on ?_); intro xq) | (go_at_call 35; (first | refine (itoa_any (ckOf s.data.toList) (by omega) (by omega) _ (by first | exact ht | exact ht.later _)).onL ?_ | refine (itoa_any (ckOf s.data.toList) (by omega) (by omega) _ (by first | exact ht | exact ht.later _)).on ?_); intro xq))
    all_goals (go_ret2; exact ⟨by rw [hfin.out]; try rfl, (by repeat (with_reducible first | exact Below.refl _ _ | refine bw_later ?_ _ | refine bw_alloc ?_ _ | refine bw_drew ?_ | refine bw_set ?_ (Nat.le_refl _) _ | refine bw_set ?_ ?_ _ | exact Nat.le_refl _ | exact later_size _ _ | refine Nat.le_trans ?_ (later_size _ _) | refine Nat.le_trans ?_ (size_alloc_le _ _) | refine Nat.le_trans ?_ (Nat.le_add_right _ _)))⟩)
theorem s_Append_any (s : ByteArray) (w : World)  : Gv Tryd.prog 17 #[.string s] w (.tuple #[.string (appF s).1, .bool (appF s).2]) := by
  unfold Gv
  by_cases h1 : s.size ≤ 4000
  rotate_left
  · have hfin := Lib.hid (show appF s = (⟨#[]⟩, false) by simp [appF, h1])
    have h2 : 4000 < s.size := by omega
    go_enter Tryd.func17, Tryd.ntmps17
    go_wp2_with fail
    all_goals (go_ret2; exact ⟨by rw [hfin.out]; try rfl, (by repeat (with_reducible first | exact Below.refl _ _ | refine bw_later ?_ _ | refine bw_alloc ?_ _ | refine bw_drew ?_ | refine bw_set ?_ (Nat.le_refl _) _ | refine bw_set ?_ ?_ _ | exact Nat.le_refl _ | exact later_size _ _ | refine Nat.le_trans ?_ (later_size _ _) | refine Nat.le_trans ?_ (size_alloc_le _ _) | refine Nat.le_trans ?_ (Nat.le_add_right _ _)))⟩)
  have h1' : decide (4000 < (s.size : Int)) = false := by simp; omega
  cases h3 : hasB s 35
  rotate_left
  · have hfin := Lib.hid (show appF s = (⟨#[]⟩, false) by simp [appF, h3])
    go_enter Tryd.func17, Tryd.ntmps17
    go_wp2_with (first | (go_at_call 39; (first | refine (stands_any s 35 _ rfl (by omega) _).onL ?_ | refine (stands_any s 35 _ rfl (by omega) _).on ?_); intro xq) | (go_at_call 40; (first | refine (seal_any s h1 _).onL ?_ | refine (seal_any s h1 _).on ?_); intro xq))
    all_goals (go_ret2; exact ⟨by rw [hfin.out]; try rfl, (by repeat (with_reducible first | exact Below.refl _ _ | refine bw_later ?_ _ | refine bw_alloc ?_ _ | refine bw_drew ?_ | refine bw_set ?_ (Nat.le_refl _) _ | refine bw_set ?_ ?_ _ | exact Nat.le_refl _ | exact later_size _ _ | refine Nat.le_trans ?_ (later_size _ _) | refine Nat.le_trans ?_ (size_alloc_le _ _) | refine Nat.le_trans ?_ (Nat.le_add_right _ _)))⟩)
  obtain ⟨c0, c1⟩ := ck_bd s.data.toList
  have hz0 := numB_size (n := ckOf s.data.toList) (by omega) (by omega)
  have hz1 : ¬ 9223372036854775807 < s.size + 1 := by omega
  have hz2 : ¬ 9223372036854775807 < s.size + 1 + (numB (ckOf s.data.toList)).size := by omega
  have es := sealB_size s
  by_cases h4 : (sealB s).size ≤ 4000
  · have hfin := Lib.hid (show appF s = (sealB s, true) by simp [appF, h1, h3, h4])
    have h5 : decide ((4000 : Int) < (s.size : Int) + 1 + ((numB (ckOf s.data.toList)).size : Int)) = false := by simp; omega
    have h6 : decide ((4000 : Int) < ((sealB s).size : Int)) = false := by simp; omega
    go_enter Tryd.func17, Tryd.ntmps17
    go_wp2_with (first | (go_at_call 39; (first | refine (stands_any s 35 _ rfl (by omega) _).onL ?_ | refine (stands_any s 35 _ rfl (by omega) _).on ?_); intro xq) | (go_at_call 40; (first | refine (seal_any s h1 _).onL ?_ | refine (seal_any s h1 _).on ?_); intro xq))
    all_goals (go_ret2; exact ⟨by rw [hfin.out]; try rfl, (by repeat (with_reducible first | exact Below.refl _ _ | refine bw_later ?_ _ | refine bw_alloc ?_ _ | refine bw_drew ?_ | refine bw_set ?_ (Nat.le_refl _) _ | refine bw_set ?_ ?_ _ | exact Nat.le_refl _ | exact later_size _ _ | refine Nat.le_trans ?_ (later_size _ _) | refine Nat.le_trans ?_ (size_alloc_le _ _) | refine Nat.le_trans ?_ (Nat.le_add_right _ _)))⟩)
  · have hfin := Lib.hid (show appF s = (⟨#[]⟩, false) by simp [appF, h4])
    have h5 : decide ((4000 : Int) < (s.size : Int) + 1 + ((numB (ckOf s.data.toList)).size : Int)) = true := by simp; omega
    have h6 : decide ((4000 : Int) < ((sealB s).size : Int)) = true := by simp; omega
    go_enter Tryd.func17, Tryd.ntmps17
    go_wp2_with (first | (go_at_call 39; (first | refine (stands_any s 35 _ rfl (by omega) _).onL ?_ | refine (stands_any s 35 _ rfl (by omega) _).on ?_); intro xq) | (go_at_call 40; (first | refine (seal_any s h1 _).onL ?_ | refine (seal_any s h1 _).on ?_); intro xq))
    all_goals (go_ret2; exact ⟨by rw [hfin.out]; try rfl, (by repeat (with_reducible first | exact Below.refl _ _ | refine bw_later ?_ _ | refine bw_alloc ?_ _ | refine bw_drew ?_ | refine bw_set ?_ (Nat.le_refl _) _ | refine bw_set ?_ ?_ _ | exact Nat.le_refl _ | exact later_size _ _ | refine Nat.le_trans ?_ (later_size _ _) | refine Nat.le_trans ?_ (size_alloc_le _ _) | refine Nat.le_trans ?_ (Nat.le_add_right _ _)))⟩)
theorem law_AppendChecksum (a : ByteArray) (w : World) (_h0 : a.size ≤ maxLen) (ht : Tab w) : Gv Tryd.prog 5 #[.string a] w (.bool true) := by
  unfold Gv
  go_enter Tryd.func5, Tryd.ntmps5
  go_wp2_with (first | (go_at_call 17; (first | refine (s_Append_any _ _).onL ?_ | refine (s_Append_any _ _).on ?_); intro xq) | (go_at_call 18; (first | refine (i_Append_any _ _ (ht.later _)).onL ?_ | refine (i_Append_any _ _ (ht.later _)).on ?_); intro xq))
  all_goals (go_ret; exact ⟨rfl, (by repeat (with_reducible first | exact Below.refl _ _ | refine bw_later ?_ _ | refine bw_alloc ?_ _ | refine bw_drew ?_ | refine bw_set ?_ (Nat.le_refl _) _ | refine bw_set ?_ ?_ _ | exact Nat.le_refl _ | exact later_size _ _ | refine Nat.le_trans ?_ (later_size _ _) | refine Nat.le_trans ?_ (size_alloc_le _ _) | refine Nat.le_trans ?_ (Nat.le_add_right _ _)))⟩)
end Go.Proofs.YteakffedlojcmaaDoor
