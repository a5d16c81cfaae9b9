/- The line with a text: the law's walk. -/
import Derived.Test.YteakffedlojcmaaDoorPLineS
import Derived.Test.YteakffedlojcmaaDoorMark
namespace Go.Proofs.YteakffedlojcmaaDoor
open Go.RowKit
theorem law_ParseLine (a0 : ByteArray) (w : World) (_ia0 : a0.size ≤ maxLen) (ht : Tab w) (he : Ers w) (hm : Mx w) : Gv Tryd.prog 9 #[.string a0] w (.bool true) := by
  unfold Gv
  by_cases ks0 : a0.size ≤ 1048576
  rotate_left
  · have hk0 : decide ((1048576 : Int) < (a0.size : Int)) = true := by simp; omega
    go_enter Tryd.func9, Tryd.ntmps9
    go_wp2_with fail
    all_goals (go_ret; exact ⟨rfl, (by repeat (with_reducible first | exact hbD | exact Below.refl _ _ | refine bw_later ?_ _ | refine bw_alloc ?_ _ | refine bw_drew ?_ | refine bw_set ?_ (Nat.le_refl _) _ | refine bw_set ?_ ?_ _ | exact Nat.le_refl _ | exact later_size _ _ | refine Nat.le_trans ?_ (later_size _ _) | refine Nat.le_trans ?_ (size_alloc_le _ _) | refine Nat.le_trans ?_ (Nat.le_add_right _ _)))⟩)
  have hk0 : decide ((1048576 : Int) < (a0.size : Int)) = false := by simp; omega
  · go_enter Tryd.func9, Tryd.ntmps9
    have hw : Below w.heap.size w w := Below.refl _ _
    go_wp2_with fail
    refine Calls.mono (s_ParseLine_any a0 _) ?_
    rintro _ w1 ⟨Ar1, m1, d1, rfl, hO1, l1, b1⟩
    replace hw := bw_trans hw b1
    have z1 := b1.size
    go_wp2_with fail
    refine Calls.mono (i_ParseLine_any a0 ks0 _ (ht.keep hw) (he.keep hw) (hm.keep hw)) ?_
    rintro _ w2 ⟨Ar2, m2, d2, rfl, hO2, l2, b2⟩
    replace hO1 := hO1.below2 b2
    replace hw := bw_trans hw b2
    have z2 := b2.size
    go_wp2_with fail
    refine Calls.mono (eqSupportS_any _ _ m2 m1 d2 d1 _ _ _ hO2.reads hO1.reads l2 l1) ?_
    rintro _ w3 ⟨rfl, b3⟩
    replace hO1 := hO1.below2 b3
    replace hO2 := hO2.below2 b3
    replace hw := bw_trans hw b3
    have z3 := b3.size
    go_wp2_with fail
    refine Calls.mono (markSupportS_any _ _ _ m2 d2 1 _ _ hO2 l2 (by omega) (by omega)) ?_
    rintro _ w4 ⟨rfl, hO2, t4⟩
    replace hO1 := hO1.tch t4 (by omega) (by omega)
    replace hw := hw.trans (t4.below (B := w.heap.size) (by omega) (by omega))
    have z4 := t4.size
    go_wp2_with fail
    refine Calls.mono (heldSupportS_any _ m2 d2 1 _ hO2.reads l2 (by omega) (by omega)) ?_
    rintro _ w5 ⟨rfl, b5⟩
    replace hO1 := hO1.below2 b5
    replace hO2 := hO2.below2 b5
    replace hw := bw_trans hw b5
    have z5 := b5.size
    go_wp2_with fail
    refine Calls.mono (i_ParseLine_any a0 ks0 _ (ht.keep hw) (he.keep hw) (hm.keep hw)) ?_
    rintro _ w6 ⟨Ar6, m6, d6, rfl, hO6, l6, b6⟩
    replace hO1 := hO1.below2 b6
    replace hO2 := hO2.below2 b6
    replace hw := bw_trans hw b6
    have z6 := b6.size
    go_wp2_with fail
    refine Calls.mono (eqSupportS_any _ _ m6 m1 d6 d1 _ _ _ hO6.reads hO1.reads l6 l1) ?_
    rintro _ w7 ⟨rfl, b7⟩
    replace hO1 := hO1.below2 b7
    replace hO2 := hO2.below2 b7
    replace hO6 := hO6.below2 b7
    replace hw := bw_trans hw b7
    have z7 := b7.size
    go_wp2_with fail
    refine Calls.mono (heldSupportS_any _ m2 d2 1 _ hO2.reads l2 (by omega) (by omega)) ?_
    rintro _ w8 ⟨rfl, b8⟩
    replace hO1 := hO1.below2 b8
    replace hO2 := hO2.below2 b8
    replace hO6 := hO6.below2 b8
    replace hw := bw_trans hw b8
    have z8 := b8.size
    go_wp2_with fail
    go_ret
    exact ⟨rfl, hw⟩
end Go.Proofs.YteakffedlojcmaaDoor
