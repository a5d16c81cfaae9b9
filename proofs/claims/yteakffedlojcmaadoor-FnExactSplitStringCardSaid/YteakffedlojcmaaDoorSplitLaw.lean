/- A text cut at a separator: the program, the reference, the law. -/
import Derived.Test.YteakffedlojcmaaDoorTexts
import Derived.Test.YteakffedlojcmaaDoorSplitLib
namespace Go.Proofs.YteakffedlojcmaaDoor
open Go.RowKit
def splF (s sep : ByteArray) : List ByteArray × Bool := if s.size ≤ 4000 ∧ sep.size = 1 then (splitS s (sep.data.toList.getD 0 0), true) else ([], false)
theorem i_Split_any (s sep : ByteArray) (w : World) (hm : Mx w) : GT Tryd.prog 13 #[.string s, .string sep] w (splF s sep) := by
  unfold GT
  by_cases h1 : s.size ≤ 4000
  rotate_left
  · have hfin := Lib.hid (show splF s sep = ([], false) by simp [splF, h1])
    have h2 : decide ((4000 : Int) < (s.size : Int)) = true := by simp; omega
    by_cases h4 : sep.size = 1
    all_goals (
      go_enter Tryd.func13, Tryd.ntmps13
      go_wp2_with fail
      all_goals (go_ret2; rw [hfin.out]; exact TsB.none_ (by repeat (with_reducible first | exact Below.refl _ _ | refine bw_later ?_ _ | refine bw_alloc ?_ _ | refine bw_drew ?_ | refine bw_set ?_ (Nat.le_refl _) _ | refine bw_set ?_ ?_ _ | exact Nat.le_refl _ | exact later_size _ _ | refine Nat.le_trans ?_ (later_size _ _) | refine Nat.le_trans ?_ (size_alloc_le _ _) | refine Nat.le_trans ?_ (Nat.le_add_right _ _)))))
  have h2 : decide ((4000 : Int) < (s.size : Int)) = false := by simp; omega
  by_cases h3 : sep.size = 1
  rotate_left
  · have hfin := Lib.hid (show splF s sep = ([], false) by simp [splF, h3])
    have h4 : ((sep.size : Int) == 1) = false := by rw [beq_eq_false_iff_ne]; omega
    go_enter Tryd.func13, Tryd.ntmps13
    go_wp2_with fail
    all_goals (go_ret2; rw [hfin.out]; exact TsB.none_ (by repeat (with_reducible first | exact Below.refl _ _ | refine bw_later ?_ _ | refine bw_alloc ?_ _ | refine bw_drew ?_ | refine bw_set ?_ (Nat.le_refl _) _ | refine bw_set ?_ ?_ _ | exact Nat.le_refl _ | exact later_size _ _ | refine Nat.le_trans ?_ (later_size _ _) | refine Nat.le_trans ?_ (size_alloc_le _ _) | refine Nat.le_trans ?_ (Nat.le_add_right _ _))))
  obtain ⟨c, rfl, e⟩ := one_byte h3
  have hfin := Lib.hid (show splF s ⟨#[c]⟩ = (splitS s c, true) by rw [splF, if_pos ⟨h1, h3⟩]; rfl)
  have hl := splitS_len s c
  clear e h3
  go_enter Tryd.func13, Tryd.ntmps13
  go_wp2_with (go_at_call 37; refine Calls.mono (splitlib_any s c (by omega) _ hm) ?_; rintro _ w1 ⟨g, cap, rfl, hg, hown, hb⟩)
  all_goals (go_ret2; rw [hfin.out]; exact TsB.some_ hown (by omega) hb)
theorem s_Split_any (s sep : ByteArray) (w : World)  : GT Tryd.prog 12 #[.string s, .string sep] w (splF s sep) := by
  unfold GT
  by_cases h1 : s.size ≤ 4000
  rotate_left
  · have hfin := Lib.hid (show splF s sep = ([], false) by simp [splF, h1])
    have h2 : decide ((4000 : Int) < (s.size : Int)) = true := by simp; omega
    by_cases h4 : sep.size = 1
    all_goals (
      go_enter Tryd.func12, Tryd.ntmps12
      go_wp2_with fail
      all_goals (go_ret2; rw [hfin.out]; exact TsB.none_ (by repeat (with_reducible first | exact Below.refl _ _ | refine bw_later ?_ _ | refine bw_alloc ?_ _ | refine bw_drew ?_ | refine bw_set ?_ (Nat.le_refl _) _ | refine bw_set ?_ ?_ _ | exact Nat.le_refl _ | exact later_size _ _ | refine Nat.le_trans ?_ (later_size _ _) | refine Nat.le_trans ?_ (size_alloc_le _ _) | refine Nat.le_trans ?_ (Nat.le_add_right _ _)))))
  have h2 : decide ((4000 : Int) < (s.size : Int)) = false := by simp; omega
  by_cases h3 : sep.size = 1
  rotate_left
  · have hfin := Lib.hid (show splF s sep = ([], false) by simp [splF, h3])
    have h4 : ((sep.size : Int) == 1) = false := by rw [beq_eq_false_iff_ne]; omega
    go_enter Tryd.func12, Tryd.ntmps12
    go_wp2_with fail
    all_goals (go_ret2; rw [hfin.out]; exact TsB.none_ (by repeat (with_reducible first | exact Below.refl _ _ | refine bw_later ?_ _ | refine bw_alloc ?_ _ | refine bw_drew ?_ | refine bw_set ?_ (Nat.le_refl _) _ | refine bw_set ?_ ?_ _ | exact Nat.le_refl _ | exact later_size _ _ | refine Nat.le_trans ?_ (later_size _ _) | refine Nat.le_trans ?_ (size_alloc_le _ _) | refine Nat.le_trans ?_ (Nat.le_add_right _ _))))
  obtain ⟨c, rfl, e⟩ := one_byte h3
  have hfin := Lib.hid (show splF s ⟨#[c]⟩ = (splitS s c, true) by rw [splF, if_pos ⟨h1, h3⟩]; rfl)
  have hl := splitS_len s c
  clear e h3
  go_enter Tryd.func12, Tryd.ntmps12
  go_wp2_with (go_at_call 36; refine Calls.mono (split_any s c _ rfl (by omega) _) ?_; rintro _ w1 ⟨g, cap, rfl, hg, hown, hb⟩)
  all_goals (go_ret2; rw [hfin.out]; exact TsB.some_ hown (by omega) hb)
theorem law_SplitString (a0 : ByteArray) (a1 : ByteArray) (w : World) (_ia0 : a0.size ≤ maxLen) (_ia1 : a1.size ≤ maxLen) (hm : Mx w) : Gv Tryd.prog 4 #[.string a0, .string a1] w (.bool true) := by
  unfold Gv
  by_cases ks0 : a0.size ≤ 1048576
  rotate_left
  · have hk0 : decide ((1048576 : Int) < (a0.size : Int)) = true := by simp; omega
    go_enter Tryd.func4, Tryd.ntmps4
    go_wp2_with fail
    all_goals (go_ret; exact ⟨rfl, (by repeat (with_reducible first | exact Below.refl _ _ | refine bw_later ?_ _ | refine bw_alloc ?_ _ | refine bw_drew ?_ | refine bw_set ?_ (Nat.le_refl _) _ | refine bw_set ?_ ?_ _ | exact Nat.le_refl _ | exact later_size _ _ | refine Nat.le_trans ?_ (later_size _ _) | refine Nat.le_trans ?_ (size_alloc_le _ _) | refine Nat.le_trans ?_ (Nat.le_add_right _ _)))⟩)
  have hk0 : decide ((1048576 : Int) < (a0.size : Int)) = false := by simp; omega
  by_cases ks1 : a1.size ≤ 1048576
  rotate_left
  · have hk1 : decide ((1048576 : Int) < (a1.size : Int)) = true := by simp; omega
    go_enter Tryd.func4, Tryd.ntmps4
    go_wp2_with fail
    all_goals (go_ret; exact ⟨rfl, (by repeat (with_reducible first | exact Below.refl _ _ | refine bw_later ?_ _ | refine bw_alloc ?_ _ | refine bw_drew ?_ | refine bw_set ?_ (Nat.le_refl _) _ | refine bw_set ?_ ?_ _ | exact Nat.le_refl _ | exact later_size _ _ | refine Nat.le_trans ?_ (later_size _ _) | refine Nat.le_trans ?_ (size_alloc_le _ _) | refine Nat.le_trans ?_ (Nat.le_add_right _ _)))⟩)
  have hk1 : decide ((1048576 : Int) < (a1.size : Int)) = false := by simp; omega
  · go_enter Tryd.func4, Tryd.ntmps4
    have hw : Below w.heap.size w w := Below.refl _ _
    go_wp2_with fail
    refine Calls.mono (s_Split_any a0 a1 _) ?_
    rintro _ w1 ⟨Ar1, m1, d1, rfl, hO1, l1, b1⟩
    replace hw := bw_trans hw b1
    have z1 := b1.size
    go_wp2_with fail
    refine Calls.mono (i_Split_any a0 a1 _ (hm.keep hw)) ?_
    rintro _ w2 ⟨Ar2, m2, d2, rfl, hO2, l2, b2⟩
    replace hO1 := hO1.below2 b2
    replace hw := bw_trans hw b2
    have z2 := b2.size
    go_wp2_with fail
    refine Calls.mono (eqStringS_any _ _ m2 m1 d2 d1 _ _ _ hO2.reads hO1.reads l2 l1) ?_
    rintro _ w3 ⟨rfl, b3⟩
    replace hO1 := hO1.below2 b3
    replace hO2 := hO2.below2 b3
    replace hw := bw_trans hw b3
    have z3 := b3.size
    go_wp2_with fail
    refine Calls.mono (markStringS_any _ _ _ m2 d2 1 _ _ hO2 l2 (by omega) (by omega)) ?_
    rintro _ w4 ⟨rfl, hO2, t4⟩
    replace hO1 := hO1.tch t4 (by omega) (by omega)
    replace hw := hw.trans (t4.below (B := w.heap.size) (by omega) (by omega))
    have z4 := t4.size
    go_wp2_with fail
    refine Calls.mono (heldStringS_any _ m2 d2 1 _ hO2.reads l2 (by omega) (by omega)) ?_
    rintro _ w5 ⟨rfl, b5⟩
    replace hO1 := hO1.below2 b5
    replace hO2 := hO2.below2 b5
    replace hw := bw_trans hw b5
    have z5 := b5.size
    go_wp2_with fail
    refine Calls.mono (i_Split_any a0 a1 _ (hm.keep hw)) ?_
    rintro _ w6 ⟨Ar6, m6, d6, rfl, hO6, l6, b6⟩
    replace hO1 := hO1.below2 b6
    replace hO2 := hO2.below2 b6
    replace hw := bw_trans hw b6
    have z6 := b6.size
    go_wp2_with fail
    refine Calls.mono (eqStringS_any _ _ m6 m1 d6 d1 _ _ _ hO6.reads hO1.reads l6 l1) ?_
    rintro _ w7 ⟨rfl, b7⟩
    replace hO1 := hO1.below2 b7
    replace hO2 := hO2.below2 b7
    replace hO6 := hO6.below2 b7
    replace hw := bw_trans hw b7
    have z7 := b7.size
    go_wp2_with fail
    refine Calls.mono (heldStringS_any _ m2 d2 1 _ hO2.reads l2 (by omega) (by omega)) ?_
    rintro _ w8 ⟨rfl, b8⟩
    replace hO1 := hO1.below2 b8
    replace hO2 := hO2.below2 b8
    replace hO6 := hO6.below2 b8
    replace hw := bw_trans hw b8
    have z8 := b8.size
    go_wp2_with fail
    go_ret
    exact ⟨rfl, hw⟩
end Go.Proofs.YteakffedlojcmaaDoor
