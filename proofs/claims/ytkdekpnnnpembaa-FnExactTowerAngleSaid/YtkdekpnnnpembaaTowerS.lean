/- By how much a rope turns at a support: the reference, and the law. -/
import Derived.Test.YtkdekpnnnpembaaTower
namespace Go.Proofs.Ytkdekpnnnpembaa
open Go.RowKit
theorem settle3 {Q : Exit → Act → World → Prop} {e : Exit} {a : Act} {w0 W' : World} {t : TypeId} {p0 p1 p2 q0 q1 q2 s0 s1 s2 : Value} (hb : Below w0.heap.size w0 W')
    (h : ∀ y : Lat w0, (later w0 y).cell? ⟨W'.heap.size, 0, none⟩ = some p0 → (later w0 y).cell? ⟨W'.heap.size, 1, none⟩ = some p1 →
      (later w0 y).cell? ⟨W'.heap.size + 1, 0, none⟩ = some q0 → (later w0 y).cell? ⟨W'.heap.size + 1, 1, none⟩ = some q1 →
      (later w0 y).cell? ⟨W'.heap.size + 1 + 1, 0, none⟩ = some s0 → (later w0 y).cell? ⟨W'.heap.size + 1 + 1, 1, none⟩ = some s1 → W'.heap.size < (later w0 y).heap.size → W'.heap.size + 1 < (later w0 y).heap.size → W'.heap.size + 1 + 1 < (later w0 y).heap.size → Q e a (later w0 y)) :
    Q e a (((W'.alloc (.cells #[p0, p1, p2] t)).alloc (.cells #[q0, q1, q2] t)).alloc (.cells #[s0, s1, s2] t)) := by
  have k1 : (((W'.alloc (.cells #[p0, p1, p2] t)).alloc (.cells #[q0, q1, q2] t)).alloc (.cells #[s0, s1, s2] t)).heap[W'.heap.size]? = some (.cells #[p0, p1, p2] t (0, 0)) :=
    (Below.heap_alloc _ _ _ (by simp; omega)).trans ((Below.heap_alloc _ _ _ (by simp)).trans (heap_alloc_new W' _))
  have k2 : (((W'.alloc (.cells #[p0, p1, p2] t)).alloc (.cells #[q0, q1, q2] t)).alloc (.cells #[s0, s1, s2] t)).heap[W'.heap.size + 1]? = some (.cells #[q0, q1, q2] t (0, 0)) := by
    have := heap_alloc_new (W'.alloc (.cells #[p0, p1, p2] t)) (.cells #[q0, q1, q2] t)
    have e : (W'.alloc (.cells #[p0, p1, p2] t)).heap.size = W'.heap.size + 1 := by simp
    rw [e] at this
    exact (Below.heap_alloc _ _ _ (by simp)).trans this
  have k3 : (((W'.alloc (.cells #[p0, p1, p2] t)).alloc (.cells #[q0, q1, q2] t)).alloc (.cells #[s0, s1, s2] t)).heap[W'.heap.size + 1 + 1]? = some (.cells #[s0, s1, s2] t (0, 0)) := by
    have := heap_alloc_new ((W'.alloc (.cells #[p0, p1, p2] t)).alloc (.cells #[q0, q1, q2] t)) (.cells #[s0, s1, s2] t)
    have e : ((W'.alloc (.cells #[p0, p1, p2] t)).alloc (.cells #[q0, q1, q2] t)).heap.size = W'.heap.size + 1 + 1 := by simp
    rw [e] at this
    exact this
  have hbb := bw_alloc (bw_alloc (bw_alloc hb (.cells #[p0, p1, p2] t)) (.cells #[q0, q1, q2] t)) (.cells #[s0, s1, s2] t)
  generalize ((W'.alloc (.cells #[p0, p1, p2] t)).alloc (.cells #[q0, q1, q2] t)).alloc (.cells #[s0, s1, s2] t) = W2 at *
  obtain ⟨y, rfl⟩ := exists_later hbb
  exact h y (cell_of_row _ _ 0 _ t (0, 0) k1) (cell_of_row _ _ 1 _ t (0, 0) k1) (cell_of_row _ _ 0 _ t (0, 0) k2) (cell_of_row _ _ 1 _ t (0, 0) k2) (cell_of_row _ _ 0 _ t (0, 0) k3) (cell_of_row _ _ 1 _ t (0, 0) k3) (Array.getElem?_eq_some_iff.1 k1).1 (Array.getElem?_eq_some_iff.1 k2).1 (Array.getElem?_eq_some_iff.1 k3).1
set_option maxHeartbeats 4000000 in
theorem s_TowerAngle_any (g off n c : Nat) (xs : List Sup) (r : R2) (s : Int) (w : World) (hs : SSup w g off n xs) (hn : n ≤ 1048576) : Gv Try.prog 31 #[.slice (some ⟨g, off, none⟩) n c, r.v, .int .i64 s] w (.tuple #[.int .i64 ((towF xs r s)).1, .int .i64 (((towF xs r s)).2).1, .bool (((towF xs r s)).2).2]) := by
  unfold Gv
  cases h0 : okLine xs
  · have hfin := Lib.hid (show towF xs r s = (0, 0, false) by simp [towF, h0])
    unfold R2.v
    go_enter Try.func31, Try.ntmps31
    go_wp2_with (first | (go_at_call 45; (first | refine (asked0_any g off n c xs r _ (by first | exact hs | exact hs.later _ | exact hs.alloc _ | exact (hs.alloc _).later _ | exact (hs.later _).alloc _ | exact ((hs.later _).alloc _).later _ | exact ((hs.alloc _).later _).alloc _ | exact (hs.alloc _).alloc _ | exact ((hs.alloc _).alloc _).later _ | exact (((hs.alloc _).later _).alloc _).later _) hn).onL ?_ | refine (asked0_any g off n c xs r _ (by first | exact hs | exact hs.later _ | exact hs.alloc _ | exact (hs.alloc _).later _ | exact (hs.later _).alloc _ | exact ((hs.later _).alloc _).later _ | exact ((hs.alloc _).later _).alloc _ | exact (hs.alloc _).alloc _ | exact ((hs.alloc _).alloc _).later _ | exact (((hs.alloc _).later _).alloc _).later _) hn).on ?_); intro xq) | (go_at_call 46; (first | refine (in_any _ _ _ _).onL ?_ | refine (in_any _ _ _ _).on ?_); intro xq))
    all_goals (go_ret3; exact ⟨by rw [hfin.out]; try rfl, (by repeat (with_reducible first | exact Below.refl _ _ | refine bw_later ?_ _ | refine bw_alloc ?_ _ | refine bw_drew ?_ | refine bw_set ?_ (Nat.le_refl _) _ | refine bw_set ?_ ?_ _ | exact Nat.le_refl _ | exact later_size _ _ | refine Nat.le_trans ?_ (later_size _ _) | refine Nat.le_trans ?_ (size_alloc_le _ _) | refine Nat.le_trans ?_ (Nat.le_add_right _ _)))⟩)
  cases h1 : isRope r
  · have hfin := Lib.hid (show towF xs r s = (0, 0, false) by simp [towF, h0, h1, hs.2.1])
    unfold R2.v
    go_enter Try.func31, Try.ntmps31
    go_wp2_with (first | (go_at_call 45; (first | refine (asked0_any g off n c xs r _ (by first | exact hs | exact hs.later _ | exact hs.alloc _ | exact (hs.alloc _).later _ | exact (hs.later _).alloc _ | exact ((hs.later _).alloc _).later _ | exact ((hs.alloc _).later _).alloc _ | exact (hs.alloc _).alloc _ | exact ((hs.alloc _).alloc _).later _ | exact (((hs.alloc _).later _).alloc _).later _) hn).onL ?_ | refine (asked0_any g off n c xs r _ (by first | exact hs | exact hs.later _ | exact hs.alloc _ | exact (hs.alloc _).later _ | exact (hs.later _).alloc _ | exact ((hs.later _).alloc _).later _ | exact ((hs.alloc _).later _).alloc _ | exact (hs.alloc _).alloc _ | exact ((hs.alloc _).alloc _).later _ | exact (((hs.alloc _).later _).alloc _).later _) hn).on ?_); intro xq) | (go_at_call 46; (first | refine (in_any _ _ _ _).onL ?_ | refine (in_any _ _ _ _).on ?_); intro xq))
    all_goals (go_ret3; exact ⟨by rw [hfin.out]; try rfl, (by repeat (with_reducible first | exact Below.refl _ _ | refine bw_later ?_ _ | refine bw_alloc ?_ _ | refine bw_drew ?_ | refine bw_set ?_ (Nat.le_refl _) _ | refine bw_set ?_ ?_ _ | exact Nat.le_refl _ | exact later_size _ _ | refine Nat.le_trans ?_ (later_size _ _) | refine Nat.le_trans ?_ (size_alloc_le _ _) | refine Nat.le_trans ?_ (Nat.le_add_right _ _)))⟩)
  cases h2 : inB s 1 ((n : Int) - 2)
  · have hfin := Lib.hid (show towF xs r s = (0, 0, false) by simp [towF, h0, h1, h2, hs.2.1])
    unfold R2.v
    go_enter Try.func31, Try.ntmps31
    go_wp2_with (first | (go_at_call 45; (first | refine (asked0_any g off n c xs r _ (by first | exact hs | exact hs.later _ | exact hs.alloc _ | exact (hs.alloc _).later _ | exact (hs.later _).alloc _ | exact ((hs.later _).alloc _).later _ | exact ((hs.alloc _).later _).alloc _ | exact (hs.alloc _).alloc _ | exact ((hs.alloc _).alloc _).later _ | exact (((hs.alloc _).later _).alloc _).later _) hn).onL ?_ | refine (asked0_any g off n c xs r _ (by first | exact hs | exact hs.later _ | exact hs.alloc _ | exact (hs.alloc _).later _ | exact (hs.later _).alloc _ | exact ((hs.later _).alloc _).later _ | exact ((hs.alloc _).later _).alloc _ | exact (hs.alloc _).alloc _ | exact ((hs.alloc _).alloc _).later _ | exact (((hs.alloc _).later _).alloc _).later _) hn).on ?_); intro xq) | (go_at_call 46; (first | refine (in_any _ _ _ _).onL ?_ | refine (in_any _ _ _ _).on ?_); intro xq))
    all_goals (go_ret3; exact ⟨by rw [hfin.out]; try rfl, (by repeat (with_reducible first | exact Below.refl _ _ | refine bw_later ?_ _ | refine bw_alloc ?_ _ | refine bw_drew ?_ | refine bw_set ?_ (Nat.le_refl _) _ | refine bw_set ?_ ?_ _ | exact Nat.le_refl _ | exact later_size _ _ | refine Nat.le_trans ?_ (later_size _ _) | refine Nat.le_trans ?_ (size_alloc_le _ _) | refine Nat.le_trans ?_ (Nat.le_add_right _ _)))⟩)
  have hfin := Lib.hid (show towF xs r s = towG (supAt xs (s.toNat - 1)) (supAt xs s.toNat) (supAt xs (s.toNat + 1)) r by simp [towF, h0, h1, h2, hs.2.1])
  obtain ⟨⟨r1, r2⟩, ⟨r3, r4⟩⟩ := rope_bd h1
  obtain ⟨s1, s2⟩ := inB_t h2
  obtain ⟨k, rfl⟩ : ∃ k : Nat, s = (k : Int) + 1 := ⟨(s - 1).toNat, by omega⟩
  have hk : k + 1 + 1 < n := by omega
  have hL := line_ok h0
  obtain ⟨A, hA⟩ := hs.at_ (k := k) (by omega)
  obtain ⟨B, hB⟩ := hs.at_ (k := k + 1) (by omega)
  obtain ⟨C, hC⟩ := hs.at_ (k := k + 1 + 1) hk
  obtain ⟨a0, a1, a2⟩ := hs.2.2 _ _ hA
  obtain ⟨b0, b1, b2⟩ := hs.2.2 _ _ hB
  obtain ⟨c0, c1, c2⟩ := hs.2.2 _ _ hC
  obtain ⟨⟨A1, A2⟩, A3, A4⟩ := hL.bd _ _ hA
  obtain ⟨⟨B1, B2⟩, B3, B4⟩ := hL.bd _ _ hB
  obtain ⟨⟨C1, C2⟩, C3, C4⟩ := hL.bd _ _ hC
  have up1 := hL.up _ _ _ hA hB
  have up2 := hL.up _ _ _ hB hC
  have hg := hs.1
  have hfin2 := Lib.hid (show towF xs r ((k : Int) + 1) = towG A B C r by
    have e1 : ((k : Int) + 1).toNat = k + 1 := by omega
    have e2 : supAt xs k = A := supAt_of hA
    have e3 : supAt xs (k + 1) = B := supAt_of hB
    have e4 : supAt xs (k + 1 + 1) = C := supAt_of hC
    rw [hfin.out, e1, Nat.add_sub_cancel, e2, e3, e4])
  clear hfin
  have iw1 : IntKind.i64.wrap ((k : Int) + 1 - 1) = (k : Int) := by rw [Go.IntWalk.i64_in _ (by omega)]; omega
  have iw2 : IntKind.i64.wrap ((k : Int) + 1 + 1) = (k : Int) + 1 + 1 := Go.IntWalk.i64_in _ (by omega)
  have i0 : k < n := by omega
  have i1 : (0 : Int) ≤ (k : Int) + 1 := by omega
  have i2 : (k : Int) + 1 < (n : Int) := by omega
  have i3 : (0 : Int) ≤ (k : Int) + 1 + 1 := by omega
  have i4 : (k : Int) + 1 + 1 < (n : Int) := by omega
  obtain ⟨p1, p2⟩ := smul_bd (a := B.h - A.h) (b := C.at_ - B.at_) (A := 2000) (B := 3000) (by omega) (by omega) (by omega) (by omega)
  obtain ⟨p3, p4⟩ := smul_bd (a := C.h - B.h) (b := B.at_ - A.at_) (A := 2000) (B := 3000) (by omega) (by omega) (by omega) (by omega)
  obtain ⟨q1, q2⟩ := mul_bd (a := r.a) (b := (B.at_ - A.at_) + (C.at_ - B.at_)) (A := 200) (B := 3000) (by omega) (by omega) (by omega) (by omega)
  obtain ⟨q3, q4⟩ := mul_bd (a := r.a * ((B.at_ - A.at_) + (C.at_ - B.at_))) (b := B.at_ - A.at_) (A := 600000) (B := 3000) (by omega) (by omega) (by omega) (by omega)
  obtain ⟨q5, q6⟩ := mul_bd (a := r.a * ((B.at_ - A.at_) + (C.at_ - B.at_)) * (B.at_ - A.at_)) (b := C.at_ - B.at_) (A := 1800000000) (B := 3000) (by omega) (by omega) (by omega) (by omega)
  obtain ⟨q7, q8⟩ := mul_bd (a := 2 * r.b) (b := B.at_ - A.at_) (A := 200000) (B := 3000) (by omega) (by omega) (by omega) (by omega)
  have q9 := one_le_mul (a := 2 * r.b) (b := B.at_ - A.at_) (by omega) (by omega)
  obtain ⟨t1, t2⟩ := mul_bd (a := 2 * r.b * (B.at_ - A.at_)) (b := C.at_ - B.at_) (A := 600000000) (B := 3000) (by omega) (by omega) (by omega) (by omega)
  have t3 := one_le_mul (a := 2 * r.b * (B.at_ - A.at_)) (b := C.at_ - B.at_) (by omega) (by omega)
  obtain ⟨u1, u2⟩ := mul_bd (a := B.at_ - A.at_) (b := C.at_ - B.at_) (A := 3000) (B := 3000) (by omega) (by omega) (by omega) (by omega)
  have u3 := one_le_mul (a := B.at_ - A.at_) (b := C.at_ - B.at_) (by omega) (by omega)
  obtain ⟨v1, v2⟩ := redN_bd (n := midN A B C) (d := midD A B C) (B := 12000000) u3 (by unfold midN; omega) (by unfold midN; omega)
  obtain ⟨v3, v4⟩ := redD_pos (n := midN A B C) (d := midD A B C) u3
  have v5 : redD (midN A B C) (midD A B C) ≤ 9000000 := by have : midD A B C = (B.at_ - A.at_) * (C.at_ - B.at_) := rfl; omega
  obtain ⟨v6, v7⟩ := smul_bd (a := redN (midN A B C) (midD A B C) * 2) (b := r.b) (A := 24000000) (B := 100000) (by omega) (by omega) (by omega) (by omega)
  obtain ⟨v8, v9⟩ := mul_bd (a := r.a * ((B.at_ - A.at_) + (C.at_ - B.at_))) (b := redD (midN A B C) (midD A B C)) (A := 600000) (B := 9000000) (by omega) (by omega) (by omega) (by omega)
  obtain ⟨x1, x2⟩ := mul_bd (a := redD (midN A B C) (midD A B C) * 2) (b := r.b) (A := 18000000) (B := 100000) (by omega) (by omega) (by omega) (by omega)
  have x3 := one_le_mul (a := redD (midN A B C) (midD A B C) * 2) (b := r.b) (by omega) (by omega)
  obtain ⟨eN, eD⟩ := tow_eq A B C r t3 x3
  have hfin3 := Lib.hid (show towF xs r ((k : Int) + 1) = (redN (towN2 A B C r) (towD2 A B C r), redD (towN2 A B C r) (towD2 A B C r), true) by rw [hfin2.out, towG, eN, eD])
  have W0 : IntKind.i64.wrap (B.at_ - A.at_) = B.at_ - A.at_ := Go.IntWalk.i64_in _ (by omega)
  have W1 : IntKind.i64.wrap (C.at_ - B.at_) = C.at_ - B.at_ := Go.IntWalk.i64_in _ (by omega)
  have W2 : IntKind.i64.wrap (B.h - A.h) = B.h - A.h := Go.IntWalk.i64_in _ (by omega)
  have W3 : IntKind.i64.wrap (C.h - B.h) = C.h - B.h := Go.IntWalk.i64_in _ (by omega)
  have W4 : IntKind.i64.wrap ((B.h - A.h) * (C.at_ - B.at_)) = (B.h - A.h) * (C.at_ - B.at_) := Go.IntWalk.i64_in _ (by omega)
  have W5 : IntKind.i64.wrap ((C.h - B.h) * (B.at_ - A.at_)) = (C.h - B.h) * (B.at_ - A.at_) := Go.IntWalk.i64_in _ (by omega)
  have W6 : IntKind.i64.wrap ((B.h - A.h) * (C.at_ - B.at_) - (C.h - B.h) * (B.at_ - A.at_)) = (B.h - A.h) * (C.at_ - B.at_) - (C.h - B.h) * (B.at_ - A.at_) := Go.IntWalk.i64_in _ (by omega)
  have W7 : IntKind.i64.wrap ((B.at_ - A.at_) * (C.at_ - B.at_)) = (B.at_ - A.at_) * (C.at_ - B.at_) := Go.IntWalk.i64_in _ (by omega)
  have W8 : IntKind.i64.wrap (redN (midN A B C) (midD A B C) * 2) = redN (midN A B C) (midD A B C) * 2 := Go.IntWalk.i64_in _ (by omega)
  have W9 : IntKind.i64.wrap (redN (midN A B C) (midD A B C) * 2 * r.b) = redN (midN A B C) (midD A B C) * 2 * r.b := Go.IntWalk.i64_in _ (by omega)
  have W10 : IntKind.i64.wrap (B.at_ - A.at_ + (C.at_ - B.at_)) = B.at_ - A.at_ + (C.at_ - B.at_) := Go.IntWalk.i64_in _ (by omega)
  have W11 : IntKind.i64.wrap (r.a * (B.at_ - A.at_ + (C.at_ - B.at_))) = r.a * (B.at_ - A.at_ + (C.at_ - B.at_)) := Go.IntWalk.i64_in _ (by omega)
  have W12 : IntKind.i64.wrap (r.a * (B.at_ - A.at_ + (C.at_ - B.at_)) * redD (midN A B C) (midD A B C)) = r.a * (B.at_ - A.at_ + (C.at_ - B.at_)) * redD (midN A B C) (midD A B C) := Go.IntWalk.i64_in _ (by omega)
  have W13 : IntKind.i64.wrap (redN (midN A B C) (midD A B C) * 2 * r.b + r.a * (B.at_ - A.at_ + (C.at_ - B.at_)) * redD (midN A B C) (midD A B C)) = redN (midN A B C) (midD A B C) * 2 * r.b + r.a * (B.at_ - A.at_ + (C.at_ - B.at_)) * redD (midN A B C) (midD A B C) := Go.IntWalk.i64_in _ (by omega)
  have W14 : IntKind.i64.wrap (redD (midN A B C) (midD A B C) * 2) = redD (midN A B C) (midD A B C) * 2 := Go.IntWalk.i64_in _ (by omega)
  have W15 : IntKind.i64.wrap (redD (midN A B C) (midD A B C) * 2 * r.b) = redD (midN A B C) (midD A B C) * 2 * r.b := Go.IntWalk.i64_in _ (by omega)
  have hc1 : Hid (∀ w, Gv Try.prog 51 #[.int .i64 ((B.h - A.h) * (C.at_ - B.at_) - (C.h - B.h) * (B.at_ - A.at_)), .int .i64 ((B.at_ - A.at_) * (C.at_ - B.at_))] w (.tuple #[.int .i64 (redN (midN A B C) (midD A B C)), .int .i64 (redD (midN A B C) (midD A B C))])) := Lib.hid (fun w => reduce_any (midN A B C) (midD A B C) u3 (by unfold midD; omega) (by unfold midN; omega) (by unfold midN; omega) w)
  have hc2 : Hid (∀ w, Gv Try.prog 51 #[.int .i64 (redN (midN A B C) (midD A B C) * 2 * r.b + r.a * (B.at_ - A.at_ + (C.at_ - B.at_)) * redD (midN A B C) (midD A B C)), .int .i64 (redD (midN A B C) (midD A B C) * 2 * r.b)] w (.tuple #[.int .i64 (redN (towN2 A B C r) (towD2 A B C r)), .int .i64 (redD (towN2 A B C r) (towD2 A B C r))])) := Lib.hid (fun w => reduce_any (towN2 A B C r) (towD2 A B C r) x3 (by unfold towD2; omega) (by unfold towN2; omega) (by unfold towN2; omega) w)
  generalize redN (towN2 A B C r) (towD2 A B C r) = z1 at *
  generalize redD (towN2 A B C r) (towD2 A B C r) = z2 at *
  generalize redN (midN A B C) (midD A B C) = n1 at *
  generalize redD (midN A B C) (midD A B C) = d1 at *
  clear hA hB hC hL eN eD hfin2 p1 p2 p3 p4 q1 q2 q3 q4 q5 q6 q7 q8 q9 t1 t2 t3 u1 u2 u3 v1 v2 v3 v4 v5 v6 v7 v8 v9 x1 x2 x3 A1 A2 A3 A4 B1 B2 B3 B4 C1 C2 C3 C4 up1 up2 r1 r2 r3 r4
  unfold R2.v
  go_enter Try.func31, Try.ntmps31
  go_wp2_with (first | (go_at_call 45; (first | refine (asked0_any g off n c xs r _ (by first | exact hs | exact hs.later _ | exact hs.alloc _ | exact (hs.alloc _).later _ | exact (hs.later _).alloc _ | exact ((hs.later _).alloc _).later _ | exact ((hs.alloc _).later _).alloc _ | exact (hs.alloc _).alloc _ | exact ((hs.alloc _).alloc _).later _ | exact (((hs.alloc _).later _).alloc _).later _) hn).onL ?_ | refine (asked0_any g off n c xs r _ (by first | exact hs | exact hs.later _ | exact hs.alloc _ | exact (hs.alloc _).later _ | exact (hs.later _).alloc _ | exact ((hs.later _).alloc _).later _ | exact ((hs.alloc _).later _).alloc _ | exact (hs.alloc _).alloc _ | exact ((hs.alloc _).alloc _).later _ | exact (((hs.alloc _).later _).alloc _).later _) hn).on ?_); intro xq) | (go_at_call 46; (first | refine (in_any _ _ _ _).onL ?_ | refine (in_any _ _ _ _).on ?_); intro xq))
  (refine wp_region_C (Below ((w.alloc (.cells #[.int .i64 r.a, .int .i64 r.b] 25))).heap.size ((w.alloc (.cells #[.int .i64 r.a, .int .i64 r.b] 25)))) (by kernel_rfl) ?_)
  ((refine step_read (i := 0) (by kernel_rfl) (by kernel_rfl) rfl (by repeat (with_reducible first | exact Below.refl _ _ | refine bw_later ?_ _ | refine bw_alloc ?_ _ | refine bw_drew ?_ | refine bw_set ?_ (Nat.le_refl _) _ | refine bw_set ?_ ?_ _ | exact Nat.le_refl _ | exact later_size _ _ | refine Nat.le_trans ?_ (later_size _ _) | refine Nat.le_trans ?_ (size_alloc_le _ _) | refine Nat.le_trans ?_ (Nat.le_add_right _ _))) rfl (fun K hK => ?_); apply Exists.intro; refine ⟨fun x => ?_, ?_⟩; focus (go_simp; (try go_bits); (try go_simp); (try rfl))); (go_simp; (try go_bits); refine hK _ ?_; clear hK K); (refine step_read (i := 1) (by kernel_rfl) (by kernel_rfl) rfl (by repeat (with_reducible first | exact Below.refl _ _ | refine bw_later ?_ _ | refine bw_alloc ?_ _ | refine bw_drew ?_ | refine bw_set ?_ (Nat.le_refl _) _ | refine bw_set ?_ ?_ _ | exact Nat.le_refl _ | exact later_size _ _ | refine Nat.le_trans ?_ (later_size _ _) | refine Nat.le_trans ?_ (size_alloc_le _ _) | refine Nat.le_trans ?_ (Nat.le_add_right _ _))) rfl (fun K hK => ?_); apply Exists.intro; refine ⟨fun x => ?_, ?_⟩; focus (go_simp; (try go_bits); (try go_simp); (try rfl))); (go_simp; (try go_bits); refine hK _ ?_; clear hK K); (refine step_read (i := 2) (by kernel_rfl) (by kernel_rfl) rfl (by repeat (with_reducible first | exact Below.refl _ _ | refine bw_later ?_ _ | refine bw_alloc ?_ _ | refine bw_drew ?_ | refine bw_set ?_ (Nat.le_refl _) _ | refine bw_set ?_ ?_ _ | exact Nat.le_refl _ | exact later_size _ _ | refine Nat.le_trans ?_ (later_size _ _) | refine Nat.le_trans ?_ (size_alloc_le _ _) | refine Nat.le_trans ?_ (Nat.le_add_right _ _))) rfl (fun K hK => ?_); apply Exists.intro; refine ⟨fun x => ?_, ?_⟩; focus (go_simp; (try go_bits); (try go_simp); (try rfl))); (go_simp; (try go_bits); refine hK _ ?_; clear hK K); (refine step_read (i := 3) (by kernel_rfl) (by kernel_rfl) rfl (by repeat (with_reducible first | exact Below.refl _ _ | refine bw_later ?_ _ | refine bw_alloc ?_ _ | refine bw_drew ?_ | refine bw_set ?_ (Nat.le_refl _) _ | refine bw_set ?_ ?_ _ | exact Nat.le_refl _ | exact later_size _ _ | refine Nat.le_trans ?_ (later_size _ _) | refine Nat.le_trans ?_ (size_alloc_le _ _) | refine Nat.le_trans ?_ (Nat.le_add_right _ _))) rfl (fun K hK => ?_); apply Exists.intro; refine ⟨fun x => ?_, ?_⟩; focus (go_simp; (try go_bits); (try go_simp); (try rfl))); (go_simp; (try go_bits); refine hK _ ?_; clear hK K); (refine step_read (i := 4) (by kernel_rfl) (by kernel_rfl) rfl (by repeat (with_reducible first | exact Below.refl _ _ | refine bw_later ?_ _ | refine bw_alloc ?_ _ | refine bw_drew ?_ | refine bw_set ?_ (Nat.le_refl _) _ | refine bw_set ?_ ?_ _ | exact Nat.le_refl _ | exact later_size _ _ | refine Nat.le_trans ?_ (later_size _ _) | refine Nat.le_trans ?_ (size_alloc_le _ _) | refine Nat.le_trans ?_ (Nat.le_add_right _ _))) rfl (fun K hK => ?_); apply Exists.intro; refine ⟨fun x => ?_, ?_⟩; focus (go_simp; (try go_bits); (try go_simp); (try rfl))); (go_simp; (try go_bits); refine hK _ ?_; clear hK K); (refine step_read (i := 5) (by kernel_rfl) (by kernel_rfl) rfl (by repeat (with_reducible first | exact Below.refl _ _ | refine bw_later ?_ _ | refine bw_alloc ?_ _ | refine bw_drew ?_ | refine bw_set ?_ (Nat.le_refl _) _ | refine bw_set ?_ ?_ _ | exact Nat.le_refl _ | exact later_size _ _ | refine Nat.le_trans ?_ (later_size _ _) | refine Nat.le_trans ?_ (size_alloc_le _ _) | refine Nat.le_trans ?_ (Nat.le_add_right _ _))) rfl (fun K hK => ?_); apply Exists.intro; refine ⟨fun x => ?_, ?_⟩; focus (go_simp; (try go_bits); (try go_simp); (try rfl))); (go_simp; (try go_bits); refine hK _ ?_; clear hK K); (refine step_read (i := 6) (by kernel_rfl) (by kernel_rfl) rfl (by repeat (with_reducible first | exact Below.refl _ _ | refine bw_later ?_ _ | refine bw_alloc ?_ _ | refine bw_drew ?_ | refine bw_set ?_ (Nat.le_refl _) _ | refine bw_set ?_ ?_ _ | exact Nat.le_refl _ | exact later_size _ _ | refine Nat.le_trans ?_ (later_size _ _) | refine Nat.le_trans ?_ (size_alloc_le _ _) | refine Nat.le_trans ?_ (Nat.le_add_right _ _))) rfl (fun K hK => ?_); apply Exists.intro; refine ⟨fun x => ?_, ?_⟩; focus (go_simp; (try go_bits); (try go_simp); (try rfl))); (go_simp; (try go_bits); refine hK _ ?_; clear hK K); (refine step_read (i := 7) (by kernel_rfl) (by kernel_rfl) rfl (by repeat (with_reducible first | exact Below.refl _ _ | refine bw_later ?_ _ | refine bw_alloc ?_ _ | refine bw_drew ?_ | refine bw_set ?_ (Nat.le_refl _) _ | refine bw_set ?_ ?_ _ | exact Nat.le_refl _ | exact later_size _ _ | refine Nat.le_trans ?_ (later_size _ _) | refine Nat.le_trans ?_ (size_alloc_le _ _) | refine Nat.le_trans ?_ (Nat.le_add_right _ _))) rfl (fun K hK => ?_); apply Exists.intro; refine ⟨fun x => ?_, ?_⟩; focus (go_simp; (try go_bits); (try go_simp); (try rfl))); (go_simp; (try go_bits); refine hK _ ?_; clear hK K); (refine step_read (i := 8) (by kernel_rfl) (by kernel_rfl) rfl (by repeat (with_reducible first | exact Below.refl _ _ | refine bw_later ?_ _ | refine bw_alloc ?_ _ | refine bw_drew ?_ | refine bw_set ?_ (Nat.le_refl _) _ | refine bw_set ?_ ?_ _ | exact Nat.le_refl _ | exact later_size _ _ | refine Nat.le_trans ?_ (later_size _ _) | refine Nat.le_trans ?_ (size_alloc_le _ _) | refine Nat.le_trans ?_ (Nat.le_add_right _ _))) rfl (fun K hK => ?_); apply Exists.intro; refine ⟨fun x => ?_, ?_⟩; focus (go_simp; (try go_bits); (try go_simp); (try rfl))); (go_simp; (try go_bits); refine hK _ ?_; clear hK K); (refine step_read (i := 9) (by kernel_rfl) (by kernel_rfl) rfl (by repeat (with_reducible first | exact Below.refl _ _ | refine bw_later ?_ _ | refine bw_alloc ?_ _ | refine bw_drew ?_ | refine bw_set ?_ (Nat.le_refl _) _ | refine bw_set ?_ ?_ _ | exact Nat.le_refl _ | exact later_size _ _ | refine Nat.le_trans ?_ (later_size _ _) | refine Nat.le_trans ?_ (size_alloc_le _ _) | refine Nat.le_trans ?_ (Nat.le_add_right _ _))) rfl (fun K hK => ?_); apply Exists.intro; refine ⟨fun x => ?_, ?_⟩; focus (go_simp; (try go_bits); (try go_simp); (try rfl))); (go_simp; (try go_bits); refine hK _ ?_; clear hK K); (refine step_read (i := 10) (by kernel_rfl) (by kernel_rfl) rfl (by repeat (with_reducible first | exact Below.refl _ _ | refine bw_later ?_ _ | refine bw_alloc ?_ _ | refine bw_drew ?_ | refine bw_set ?_ (Nat.le_refl _) _ | refine bw_set ?_ ?_ _ | exact Nat.le_refl _ | exact later_size _ _ | refine Nat.le_trans ?_ (later_size _ _) | refine Nat.le_trans ?_ (size_alloc_le _ _) | refine Nat.le_trans ?_ (Nat.le_add_right _ _))) rfl (fun K hK => ?_); apply Exists.intro; refine ⟨fun x => ?_, ?_⟩; focus (go_simp; (try go_bits); (try go_simp); (try rfl))); (go_simp; (try go_bits); refine hK _ ?_; clear hK K); (refine step_read (i := 11) (by kernel_rfl) (by kernel_rfl) rfl (by repeat (with_reducible first | exact Below.refl _ _ | refine bw_later ?_ _ | refine bw_alloc ?_ _ | refine bw_drew ?_ | refine bw_set ?_ (Nat.le_refl _) _ | refine bw_set ?_ ?_ _ | exact Nat.le_refl _ | exact later_size _ _ | refine Nat.le_trans ?_ (later_size _ _) | refine Nat.le_trans ?_ (size_alloc_le _ _) | refine Nat.le_trans ?_ (Nat.le_add_right _ _))) rfl (fun K hK => ?_); apply Exists.intro; refine ⟨fun x => ?_, ?_⟩; focus (go_simp; (try go_bits); (try go_simp); (try rfl))); (go_simp; (try go_bits); refine hK _ ?_; clear hK K); (refine step_read (i := 12) (by kernel_rfl) (by kernel_rfl) rfl (by repeat (with_reducible first | exact Below.refl _ _ | refine bw_later ?_ _ | refine bw_alloc ?_ _ | refine bw_drew ?_ | refine bw_set ?_ (Nat.le_refl _) _ | refine bw_set ?_ ?_ _ | exact Nat.le_refl _ | exact later_size _ _ | refine Nat.le_trans ?_ (later_size _ _) | refine Nat.le_trans ?_ (size_alloc_le _ _) | refine Nat.le_trans ?_ (Nat.le_add_right _ _))) rfl (fun K hK => ?_); apply Exists.intro; refine ⟨fun x => ?_, ?_⟩; focus (go_simp; (try go_bits); (try go_simp); (try rfl))); (go_simp; (try go_bits); refine hK _ ?_; clear hK K); (refine step_read (i := 13) (by kernel_rfl) (by kernel_rfl) rfl (by repeat (with_reducible first | exact Below.refl _ _ | refine bw_later ?_ _ | refine bw_alloc ?_ _ | refine bw_drew ?_ | refine bw_set ?_ (Nat.le_refl _) _ | refine bw_set ?_ ?_ _ | exact Nat.le_refl _ | exact later_size _ _ | refine Nat.le_trans ?_ (later_size _ _) | refine Nat.le_trans ?_ (size_alloc_le _ _) | refine Nat.le_trans ?_ (Nat.le_add_right _ _))) rfl (fun K hK => ?_); apply Exists.intro; refine ⟨fun x => ?_, ?_⟩; focus (go_simp; (try go_bits); (try go_simp); (try rfl))); (go_simp; (try go_bits); refine hK _ ?_; clear hK K))
  refine step_three (i := 14) (i' := 15) (i'' := 16) (by kernel_rfl) rfl rfl rfl (by repeat (with_reducible first | exact Below.refl _ _ | refine bw_later ?_ _ | refine bw_alloc ?_ _ | refine bw_drew ?_ | refine bw_set ?_ (Nat.le_refl _) _ | refine bw_set ?_ ?_ _ | exact Nat.le_refl _ | exact later_size _ _ | refine Nat.le_trans ?_ (later_size _ _) | refine Nat.le_trans ?_ (size_alloc_le _ _) | refine Nat.le_trans ?_ (Nat.le_add_right _ _))) (fun K hK => ?_) (fun K hK => ?_) (fun K hK => ?_)
  · go_wp2; (try refine hK _ _ ?_); (try clear hK K)
    refine step_two (i := 15) (i' := 16) (by kernel_rfl) rfl rfl (by repeat (with_reducible first | exact Below.refl _ _ | refine bw_later ?_ _ | refine bw_alloc ?_ _ | refine bw_drew ?_ | refine bw_set ?_ (Nat.le_refl _) _ | refine bw_set ?_ ?_ _ | exact Nat.le_refl _ | exact later_size _ _ | refine Nat.le_trans ?_ (later_size _ _) | refine Nat.le_trans ?_ (size_alloc_le _ _) | refine Nat.le_trans ?_ (Nat.le_add_right _ _))) (fun K hK => ?_) (fun K hK => ?_)
    · go_wp2; (try refine hK _ _ ?_); (try clear hK K); (refine step_one (i := 16) (by kernel_rfl) rfl (by repeat (with_reducible first | exact Below.refl _ _ | refine bw_later ?_ _ | refine bw_alloc ?_ _ | refine bw_drew ?_ | refine bw_set ?_ (Nat.le_refl _) _ | refine bw_set ?_ ?_ _ | exact Nat.le_refl _ | exact later_size _ _ | refine Nat.le_trans ?_ (later_size _ _) | refine Nat.le_trans ?_ (size_alloc_le _ _) | refine Nat.le_trans ?_ (Nat.le_add_right _ _))) (fun K hK => ?_); go_wp2; (try refine hK _ _ ?_); (try clear hK K)); (refine step_one (i := 17) (by kernel_rfl) rfl (by repeat (with_reducible first | exact Below.refl _ _ | refine bw_later ?_ _ | refine bw_alloc ?_ _ | refine bw_drew ?_ | refine bw_set ?_ (Nat.le_refl _) _ | refine bw_set ?_ ?_ _ | exact Nat.le_refl _ | exact later_size _ _ | refine Nat.le_trans ?_ (later_size _ _) | refine Nat.le_trans ?_ (size_alloc_le _ _) | refine Nat.le_trans ?_ (Nat.le_add_right _ _))) (fun K hK => ?_); go_wp2; (try refine hK _ _ ?_); (try clear hK K)); (refine step_one (i := 18) (by kernel_rfl) rfl (by repeat (with_reducible first | exact Below.refl _ _ | refine bw_later ?_ _ | refine bw_alloc ?_ _ | refine bw_drew ?_ | refine bw_set ?_ (Nat.le_refl _) _ | refine bw_set ?_ ?_ _ | exact Nat.le_refl _ | exact later_size _ _ | refine Nat.le_trans ?_ (later_size _ _) | refine Nat.le_trans ?_ (size_alloc_le _ _) | refine Nat.le_trans ?_ (Nat.le_add_right _ _))) (fun K hK => ?_); go_wp2; (try refine hK _ _ ?_); (try clear hK K)); (refine step_one (i := 19) (by kernel_rfl) rfl (by repeat (with_reducible first | exact Below.refl _ _ | refine bw_later ?_ _ | refine bw_alloc ?_ _ | refine bw_drew ?_ | refine bw_set ?_ (Nat.le_refl _) _ | refine bw_set ?_ ?_ _ | exact Nat.le_refl _ | exact later_size _ _ | refine Nat.le_trans ?_ (later_size _ _) | refine Nat.le_trans ?_ (size_alloc_le _ _) | refine Nat.le_trans ?_ (Nat.le_add_right _ _))) (fun K hK => ?_); go_wp2; (try refine hK _ _ ?_); (try clear hK K)); (refine step_end (by kernel_rfl) (by repeat (with_reducible first | exact Below.refl _ _ | refine bw_later ?_ _ | refine bw_alloc ?_ _ | refine bw_drew ?_ | refine bw_set ?_ (Nat.le_refl _) _ | refine bw_set ?_ ?_ _ | exact Nat.le_refl _ | exact later_size _ _ | refine Nat.le_trans ?_ (later_size _ _) | refine Nat.le_trans ?_ (size_alloc_le _ _) | refine Nat.le_trans ?_ (Nat.le_add_right _ _))) ?_); refine settle3 (w0 := (w.alloc (.cells #[.int .i64 r.a, .int .i64 r.b] 25))) (by repeat (with_reducible first | exact Below.refl _ _ | refine bw_later ?_ _ | refine bw_alloc ?_ _ | refine bw_drew ?_ | refine bw_set ?_ (Nat.le_refl _) _ | refine bw_set ?_ ?_ _ | exact Nat.le_refl _ | exact later_size _ _ | refine Nat.le_trans ?_ (later_size _ _) | refine Nat.le_trans ?_ (size_alloc_le _ _) | refine Nat.le_trans ?_ (Nat.le_add_right _ _))) (fun y f1 f2 f3 f4 f5 f6 l1 l2 l3 => ?_); have l4 := lt_later (w.alloc (.cells #[.int .i64 r.a, .int .i64 r.b] 25)) y w.heap.size (by simp); go_wp2_with (first | ((with_reducible refine wp_region_later (by kernel_rfl) (by kernel_rfl) ?_); (repeat (go_big_quiet_step (fail))); refine wpQuiet_nil ?_; rintro _ ⟨xr, rfl⟩) | (go_at_call 51; (first | refine (hc1.out _).onL ?_ | refine (hc1.out _).on ?_); intro xq; clear hc1) | (go_at_call 51; (first | refine (hc2.out _).onL ?_ | refine (hc2.out _).on ?_); intro xq)); go_ret3; exact ⟨by rw [hfin3.out]; rfl, (by repeat (with_reducible first | exact Below.refl _ _ | refine bw_later ?_ _ | refine bw_alloc ?_ _ | refine bw_drew ?_ | refine bw_set ?_ (Nat.le_refl _) _ | refine bw_set ?_ ?_ _ | exact Nat.le_refl _ | exact later_size _ _ | refine Nat.le_trans ?_ (later_size _ _) | refine Nat.le_trans ?_ (size_alloc_le _ _) | refine Nat.le_trans ?_ (Nat.le_add_right _ _)))⟩
    · go_wp2; (try refine hK _ _ ?_); (try clear hK K); (refine step_one (i := 15) (by kernel_rfl) rfl (by repeat (with_reducible first | exact Below.refl _ _ | refine bw_later ?_ _ | refine bw_alloc ?_ _ | refine bw_drew ?_ | refine bw_set ?_ (Nat.le_refl _) _ | refine bw_set ?_ ?_ _ | exact Nat.le_refl _ | exact later_size _ _ | refine Nat.le_trans ?_ (later_size _ _) | refine Nat.le_trans ?_ (size_alloc_le _ _) | refine Nat.le_trans ?_ (Nat.le_add_right _ _))) (fun K hK => ?_); go_wp2; (try refine hK _ _ ?_); (try clear hK K)); (refine step_one (i := 17) (by kernel_rfl) rfl (by repeat (with_reducible first | exact Below.refl _ _ | refine bw_later ?_ _ | refine bw_alloc ?_ _ | refine bw_drew ?_ | refine bw_set ?_ (Nat.le_refl _) _ | refine bw_set ?_ ?_ _ | exact Nat.le_refl _ | exact later_size _ _ | refine Nat.le_trans ?_ (later_size _ _) | refine Nat.le_trans ?_ (size_alloc_le _ _) | refine Nat.le_trans ?_ (Nat.le_add_right _ _))) (fun K hK => ?_); go_wp2; (try refine hK _ _ ?_); (try clear hK K)); (refine step_one (i := 18) (by kernel_rfl) rfl (by repeat (with_reducible first | exact Below.refl _ _ | refine bw_later ?_ _ | refine bw_alloc ?_ _ | refine bw_drew ?_ | refine bw_set ?_ (Nat.le_refl _) _ | refine bw_set ?_ ?_ _ | exact Nat.le_refl _ | exact later_size _ _ | refine Nat.le_trans ?_ (later_size _ _) | refine Nat.le_trans ?_ (size_alloc_le _ _) | refine Nat.le_trans ?_ (Nat.le_add_right _ _))) (fun K hK => ?_); go_wp2; (try refine hK _ _ ?_); (try clear hK K)); (refine step_one (i := 19) (by kernel_rfl) rfl (by repeat (with_reducible first | exact Below.refl _ _ | refine bw_later ?_ _ | refine bw_alloc ?_ _ | refine bw_drew ?_ | refine bw_set ?_ (Nat.le_refl _) _ | refine bw_set ?_ ?_ _ | exact Nat.le_refl _ | exact later_size _ _ | refine Nat.le_trans ?_ (later_size _ _) | refine Nat.le_trans ?_ (size_alloc_le _ _) | refine Nat.le_trans ?_ (Nat.le_add_right _ _))) (fun K hK => ?_); go_wp2; (try refine hK _ _ ?_); (try clear hK K)); (refine step_end (by kernel_rfl) (by repeat (with_reducible first | exact Below.refl _ _ | refine bw_later ?_ _ | refine bw_alloc ?_ _ | refine bw_drew ?_ | refine bw_set ?_ (Nat.le_refl _) _ | refine bw_set ?_ ?_ _ | exact Nat.le_refl _ | exact later_size _ _ | refine Nat.le_trans ?_ (later_size _ _) | refine Nat.le_trans ?_ (size_alloc_le _ _) | refine Nat.le_trans ?_ (Nat.le_add_right _ _))) ?_); refine settle3 (w0 := (w.alloc (.cells #[.int .i64 r.a, .int .i64 r.b] 25))) (by repeat (with_reducible first | exact Below.refl _ _ | refine bw_later ?_ _ | refine bw_alloc ?_ _ | refine bw_drew ?_ | refine bw_set ?_ (Nat.le_refl _) _ | refine bw_set ?_ ?_ _ | exact Nat.le_refl _ | exact later_size _ _ | refine Nat.le_trans ?_ (later_size _ _) | refine Nat.le_trans ?_ (size_alloc_le _ _) | refine Nat.le_trans ?_ (Nat.le_add_right _ _))) (fun y f1 f2 f3 f4 f5 f6 l1 l2 l3 => ?_); have l4 := lt_later (w.alloc (.cells #[.int .i64 r.a, .int .i64 r.b] 25)) y w.heap.size (by simp); go_wp2_with (first | ((with_reducible refine wp_region_later (by kernel_rfl) (by kernel_rfl) ?_); (repeat (go_big_quiet_step (fail))); refine wpQuiet_nil ?_; rintro _ ⟨xr, rfl⟩) | (go_at_call 51; (first | refine (hc1.out _).onL ?_ | refine (hc1.out _).on ?_); intro xq; clear hc1) | (go_at_call 51; (first | refine (hc2.out _).onL ?_ | refine (hc2.out _).on ?_); intro xq)); go_ret3; exact ⟨by rw [hfin3.out]; rfl, (by repeat (with_reducible first | exact Below.refl _ _ | refine bw_later ?_ _ | refine bw_alloc ?_ _ | refine bw_drew ?_ | refine bw_set ?_ (Nat.le_refl _) _ | refine bw_set ?_ ?_ _ | exact Nat.le_refl _ | exact later_size _ _ | refine Nat.le_trans ?_ (later_size _ _) | refine Nat.le_trans ?_ (size_alloc_le _ _) | refine Nat.le_trans ?_ (Nat.le_add_right _ _)))⟩
  · go_wp2; (try refine hK _ _ ?_); (try clear hK K)
    refine step_two (i := 14) (i' := 16) (by kernel_rfl) rfl rfl (by repeat (with_reducible first | exact Below.refl _ _ | refine bw_later ?_ _ | refine bw_alloc ?_ _ | refine bw_drew ?_ | refine bw_set ?_ (Nat.le_refl _) _ | refine bw_set ?_ ?_ _ | exact Nat.le_refl _ | exact later_size _ _ | refine Nat.le_trans ?_ (later_size _ _) | refine Nat.le_trans ?_ (size_alloc_le _ _) | refine Nat.le_trans ?_ (Nat.le_add_right _ _))) (fun K hK => ?_) (fun K hK => ?_)
    · go_wp2; (try refine hK _ _ ?_); (try clear hK K); (refine step_one (i := 16) (by kernel_rfl) rfl (by repeat (with_reducible first | exact Below.refl _ _ | refine bw_later ?_ _ | refine bw_alloc ?_ _ | refine bw_drew ?_ | refine bw_set ?_ (Nat.le_refl _) _ | refine bw_set ?_ ?_ _ | exact Nat.le_refl _ | exact later_size _ _ | refine Nat.le_trans ?_ (later_size _ _) | refine Nat.le_trans ?_ (size_alloc_le _ _) | refine Nat.le_trans ?_ (Nat.le_add_right _ _))) (fun K hK => ?_); go_wp2; (try refine hK _ _ ?_); (try clear hK K)); (refine step_one (i := 17) (by kernel_rfl) rfl (by repeat (with_reducible first | exact Below.refl _ _ | refine bw_later ?_ _ | refine bw_alloc ?_ _ | refine bw_drew ?_ | refine bw_set ?_ (Nat.le_refl _) _ | refine bw_set ?_ ?_ _ | exact Nat.le_refl _ | exact later_size _ _ | refine Nat.le_trans ?_ (later_size _ _) | refine Nat.le_trans ?_ (size_alloc_le _ _) | refine Nat.le_trans ?_ (Nat.le_add_right _ _))) (fun K hK => ?_); go_wp2; (try refine hK _ _ ?_); (try clear hK K)); (refine step_one (i := 18) (by kernel_rfl) rfl (by repeat (with_reducible first | exact Below.refl _ _ | refine bw_later ?_ _ | refine bw_alloc ?_ _ | refine bw_drew ?_ | refine bw_set ?_ (Nat.le_refl _) _ | refine bw_set ?_ ?_ _ | exact Nat.le_refl _ | exact later_size _ _ | refine Nat.le_trans ?_ (later_size _ _) | refine Nat.le_trans ?_ (size_alloc_le _ _) | refine Nat.le_trans ?_ (Nat.le_add_right _ _))) (fun K hK => ?_); go_wp2; (try refine hK _ _ ?_); (try clear hK K)); (refine step_one (i := 19) (by kernel_rfl) rfl (by repeat (with_reducible first | exact Below.refl _ _ | refine bw_later ?_ _ | refine bw_alloc ?_ _ | refine bw_drew ?_ | refine bw_set ?_ (Nat.le_refl _) _ | refine bw_set ?_ ?_ _ | exact Nat.le_refl _ | exact later_size _ _ | refine Nat.le_trans ?_ (later_size _ _) | refine Nat.le_trans ?_ (size_alloc_le _ _) | refine Nat.le_trans ?_ (Nat.le_add_right _ _))) (fun K hK => ?_); go_wp2; (try refine hK _ _ ?_); (try clear hK K)); (refine step_end (by kernel_rfl) (by repeat (with_reducible first | exact Below.refl _ _ | refine bw_later ?_ _ | refine bw_alloc ?_ _ | refine bw_drew ?_ | refine bw_set ?_ (Nat.le_refl _) _ | refine bw_set ?_ ?_ _ | exact Nat.le_refl _ | exact later_size _ _ | refine Nat.le_trans ?_ (later_size _ _) | refine Nat.le_trans ?_ (size_alloc_le _ _) | refine Nat.le_trans ?_ (Nat.le_add_right _ _))) ?_); refine settle3 (w0 := (w.alloc (.cells #[.int .i64 r.a, .int .i64 r.b] 25))) (by repeat (with_reducible first | exact Below.refl _ _ | refine bw_later ?_ _ | refine bw_alloc ?_ _ | refine bw_drew ?_ | refine bw_set ?_ (Nat.le_refl _) _ | refine bw_set ?_ ?_ _ | exact Nat.le_refl _ | exact later_size _ _ | refine Nat.le_trans ?_ (later_size _ _) | refine Nat.le_trans ?_ (size_alloc_le _ _) | refine Nat.le_trans ?_ (Nat.le_add_right _ _))) (fun y f1 f2 f3 f4 f5 f6 l1 l2 l3 => ?_); have l4 := lt_later (w.alloc (.cells #[.int .i64 r.a, .int .i64 r.b] 25)) y w.heap.size (by simp); go_wp2_with (first | ((with_reducible refine wp_region_later (by kernel_rfl) (by kernel_rfl) ?_); (repeat (go_big_quiet_step (fail))); refine wpQuiet_nil ?_; rintro _ ⟨xr, rfl⟩) | (go_at_call 51; (first | refine (hc1.out _).onL ?_ | refine (hc1.out _).on ?_); intro xq; clear hc1) | (go_at_call 51; (first | refine (hc2.out _).onL ?_ | refine (hc2.out _).on ?_); intro xq)); go_ret3; exact ⟨by rw [hfin3.out]; rfl, (by repeat (with_reducible first | exact Below.refl _ _ | refine bw_later ?_ _ | refine bw_alloc ?_ _ | refine bw_drew ?_ | refine bw_set ?_ (Nat.le_refl _) _ | refine bw_set ?_ ?_ _ | exact Nat.le_refl _ | exact later_size _ _ | refine Nat.le_trans ?_ (later_size _ _) | refine Nat.le_trans ?_ (size_alloc_le _ _) | refine Nat.le_trans ?_ (Nat.le_add_right _ _)))⟩
    · go_wp2; (try refine hK _ _ ?_); (try clear hK K); (refine step_one (i := 14) (by kernel_rfl) rfl (by repeat (with_reducible first | exact Below.refl _ _ | refine bw_later ?_ _ | refine bw_alloc ?_ _ | refine bw_drew ?_ | refine bw_set ?_ (Nat.le_refl _) _ | refine bw_set ?_ ?_ _ | exact Nat.le_refl _ | exact later_size _ _ | refine Nat.le_trans ?_ (later_size _ _) | refine Nat.le_trans ?_ (size_alloc_le _ _) | refine Nat.le_trans ?_ (Nat.le_add_right _ _))) (fun K hK => ?_); go_wp2; (try refine hK _ _ ?_); (try clear hK K)); (refine step_one (i := 17) (by kernel_rfl) rfl (by repeat (with_reducible first | exact Below.refl _ _ | refine bw_later ?_ _ | refine bw_alloc ?_ _ | refine bw_drew ?_ | refine bw_set ?_ (Nat.le_refl _) _ | refine bw_set ?_ ?_ _ | exact Nat.le_refl _ | exact later_size _ _ | refine Nat.le_trans ?_ (later_size _ _) | refine Nat.le_trans ?_ (size_alloc_le _ _) | refine Nat.le_trans ?_ (Nat.le_add_right _ _))) (fun K hK => ?_); go_wp2; (try refine hK _ _ ?_); (try clear hK K)); (refine step_one (i := 18) (by kernel_rfl) rfl (by repeat (with_reducible first | exact Below.refl _ _ | refine bw_later ?_ _ | refine bw_alloc ?_ _ | refine bw_drew ?_ | refine bw_set ?_ (Nat.le_refl _) _ | refine bw_set ?_ ?_ _ | exact Nat.le_refl _ | exact later_size _ _ | refine Nat.le_trans ?_ (later_size _ _) | refine Nat.le_trans ?_ (size_alloc_le _ _) | refine Nat.le_trans ?_ (Nat.le_add_right _ _))) (fun K hK => ?_); go_wp2; (try refine hK _ _ ?_); (try clear hK K)); (refine step_one (i := 19) (by kernel_rfl) rfl (by repeat (with_reducible first | exact Below.refl _ _ | refine bw_later ?_ _ | refine bw_alloc ?_ _ | refine bw_drew ?_ | refine bw_set ?_ (Nat.le_refl _) _ | refine bw_set ?_ ?_ _ | exact Nat.le_refl _ | exact later_size _ _ | refine Nat.le_trans ?_ (later_size _ _) | refine Nat.le_trans ?_ (size_alloc_le _ _) | refine Nat.le_trans ?_ (Nat.le_add_right _ _))) (fun K hK => ?_); go_wp2; (try refine hK _ _ ?_); (try clear hK K)); (refine step_end (by kernel_rfl) (by repeat (with_reducible first | exact Below.refl _ _ | refine bw_later ?_ _ | refine bw_alloc ?_ _ | refine bw_drew ?_ | refine bw_set ?_ (Nat.le_refl _) _ | refine bw_set ?_ ?_ _ | exact Nat.le_refl _ | exact later_size _ _ | refine Nat.le_trans ?_ (later_size _ _) | refine Nat.le_trans ?_ (size_alloc_le _ _) | refine Nat.le_trans ?_ (Nat.le_add_right _ _))) ?_); refine settle3 (w0 := (w.alloc (.cells #[.int .i64 r.a, .int .i64 r.b] 25))) (by repeat (with_reducible first | exact Below.refl _ _ | refine bw_later ?_ _ | refine bw_alloc ?_ _ | refine bw_drew ?_ | refine bw_set ?_ (Nat.le_refl _) _ | refine bw_set ?_ ?_ _ | exact Nat.le_refl _ | exact later_size _ _ | refine Nat.le_trans ?_ (later_size _ _) | refine Nat.le_trans ?_ (size_alloc_le _ _) | refine Nat.le_trans ?_ (Nat.le_add_right _ _))) (fun y f1 f2 f3 f4 f5 f6 l1 l2 l3 => ?_); have l4 := lt_later (w.alloc (.cells #[.int .i64 r.a, .int .i64 r.b] 25)) y w.heap.size (by simp); go_wp2_with (first | ((with_reducible refine wp_region_later (by kernel_rfl) (by kernel_rfl) ?_); (repeat (go_big_quiet_step (fail))); refine wpQuiet_nil ?_; rintro _ ⟨xr, rfl⟩) | (go_at_call 51; (first | refine (hc1.out _).onL ?_ | refine (hc1.out _).on ?_); intro xq; clear hc1) | (go_at_call 51; (first | refine (hc2.out _).onL ?_ | refine (hc2.out _).on ?_); intro xq)); go_ret3; exact ⟨by rw [hfin3.out]; rfl, (by repeat (with_reducible first | exact Below.refl _ _ | refine bw_later ?_ _ | refine bw_alloc ?_ _ | refine bw_drew ?_ | refine bw_set ?_ (Nat.le_refl _) _ | refine bw_set ?_ ?_ _ | exact Nat.le_refl _ | exact later_size _ _ | refine Nat.le_trans ?_ (later_size _ _) | refine Nat.le_trans ?_ (size_alloc_le _ _) | refine Nat.le_trans ?_ (Nat.le_add_right _ _)))⟩
  · go_wp2; (try refine hK _ _ ?_); (try clear hK K)
    refine step_two (i := 14) (i' := 15) (by kernel_rfl) rfl rfl (by repeat (with_reducible first | exact Below.refl _ _ | refine bw_later ?_ _ | refine bw_alloc ?_ _ | refine bw_drew ?_ | refine bw_set ?_ (Nat.le_refl _) _ | refine bw_set ?_ ?_ _ | exact Nat.le_refl _ | exact later_size _ _ | refine Nat.le_trans ?_ (later_size _ _) | refine Nat.le_trans ?_ (size_alloc_le _ _) | refine Nat.le_trans ?_ (Nat.le_add_right _ _))) (fun K hK => ?_) (fun K hK => ?_)
    · go_wp2; (try refine hK _ _ ?_); (try clear hK K); (refine step_one (i := 15) (by kernel_rfl) rfl (by repeat (with_reducible first | exact Below.refl _ _ | refine bw_later ?_ _ | refine bw_alloc ?_ _ | refine bw_drew ?_ | refine bw_set ?_ (Nat.le_refl _) _ | refine bw_set ?_ ?_ _ | exact Nat.le_refl _ | exact later_size _ _ | refine Nat.le_trans ?_ (later_size _ _) | refine Nat.le_trans ?_ (size_alloc_le _ _) | refine Nat.le_trans ?_ (Nat.le_add_right _ _))) (fun K hK => ?_); go_wp2; (try refine hK _ _ ?_); (try clear hK K)); (refine step_one (i := 17) (by kernel_rfl) rfl (by repeat (with_reducible first | exact Below.refl _ _ | refine bw_later ?_ _ | refine bw_alloc ?_ _ | refine bw_drew ?_ | refine bw_set ?_ (Nat.le_refl _) _ | refine bw_set ?_ ?_ _ | exact Nat.le_refl _ | exact later_size _ _ | refine Nat.le_trans ?_ (later_size _ _) | refine Nat.le_trans ?_ (size_alloc_le _ _) | refine Nat.le_trans ?_ (Nat.le_add_right _ _))) (fun K hK => ?_); go_wp2; (try refine hK _ _ ?_); (try clear hK K)); (refine step_one (i := 18) (by kernel_rfl) rfl (by repeat (with_reducible first | exact Below.refl _ _ | refine bw_later ?_ _ | refine bw_alloc ?_ _ | refine bw_drew ?_ | refine bw_set ?_ (Nat.le_refl _) _ | refine bw_set ?_ ?_ _ | exact Nat.le_refl _ | exact later_size _ _ | refine Nat.le_trans ?_ (later_size _ _) | refine Nat.le_trans ?_ (size_alloc_le _ _) | refine Nat.le_trans ?_ (Nat.le_add_right _ _))) (fun K hK => ?_); go_wp2; (try refine hK _ _ ?_); (try clear hK K)); (refine step_one (i := 19) (by kernel_rfl) rfl (by repeat (with_reducible first | exact Below.refl _ _ | refine bw_later ?_ _ | refine bw_alloc ?_ _ | refine bw_drew ?_ | refine bw_set ?_ (Nat.le_refl _) _ | refine bw_set ?_ ?_ _ | exact Nat.le_refl _ | exact later_size _ _ | refine Nat.le_trans ?_ (later_size _ _) | refine Nat.le_trans ?_ (size_alloc_le _ _) | refine Nat.le_trans ?_ (Nat.le_add_right _ _))) (fun K hK => ?_); go_wp2; (try refine hK _ _ ?_); (try clear hK K)); (refine step_end (by kernel_rfl) (by repeat (with_reducible first | exact Below.refl _ _ | refine bw_later ?_ _ | refine bw_alloc ?_ _ | refine bw_drew ?_ | refine bw_set ?_ (Nat.le_refl _) _ | refine bw_set ?_ ?_ _ | exact Nat.le_refl _ | exact later_size _ _ | refine Nat.le_trans ?_ (later_size _ _) | refine Nat.le_trans ?_ (size_alloc_le _ _) | refine Nat.le_trans ?_ (Nat.le_add_right _ _))) ?_); refine settle3 (w0 := (w.alloc (.cells #[.int .i64 r.a, .int .i64 r.b] 25))) (by repeat (with_reducible first | exact Below.refl _ _ | refine bw_later ?_ _ | refine bw_alloc ?_ _ | refine bw_drew ?_ | refine bw_set ?_ (Nat.le_refl _) _ | refine bw_set ?_ ?_ _ | exact Nat.le_refl _ | exact later_size _ _ | refine Nat.le_trans ?_ (later_size _ _) | refine Nat.le_trans ?_ (size_alloc_le _ _) | refine Nat.le_trans ?_ (Nat.le_add_right _ _))) (fun y f1 f2 f3 f4 f5 f6 l1 l2 l3 => ?_); have l4 := lt_later (w.alloc (.cells #[.int .i64 r.a, .int .i64 r.b] 25)) y w.heap.size (by simp); go_wp2_with (first | ((with_reducible refine wp_region_later (by kernel_rfl) (by kernel_rfl) ?_); (repeat (go_big_quiet_step (fail))); refine wpQuiet_nil ?_; rintro _ ⟨xr, rfl⟩) | (go_at_call 51; (first | refine (hc1.out _).onL ?_ | refine (hc1.out _).on ?_); intro xq; clear hc1) | (go_at_call 51; (first | refine (hc2.out _).onL ?_ | refine (hc2.out _).on ?_); intro xq)); go_ret3; exact ⟨by rw [hfin3.out]; rfl, (by repeat (with_reducible first | exact Below.refl _ _ | refine bw_later ?_ _ | refine bw_alloc ?_ _ | refine bw_drew ?_ | refine bw_set ?_ (Nat.le_refl _) _ | refine bw_set ?_ ?_ _ | exact Nat.le_refl _ | exact later_size _ _ | refine Nat.le_trans ?_ (later_size _ _) | refine Nat.le_trans ?_ (size_alloc_le _ _) | refine Nat.le_trans ?_ (Nat.le_add_right _ _)))⟩
    · go_wp2; (try refine hK _ _ ?_); (try clear hK K); (refine step_one (i := 14) (by kernel_rfl) rfl (by repeat (with_reducible first | exact Below.refl _ _ | refine bw_later ?_ _ | refine bw_alloc ?_ _ | refine bw_drew ?_ | refine bw_set ?_ (Nat.le_refl _) _ | refine bw_set ?_ ?_ _ | exact Nat.le_refl _ | exact later_size _ _ | refine Nat.le_trans ?_ (later_size _ _) | refine Nat.le_trans ?_ (size_alloc_le _ _) | refine Nat.le_trans ?_ (Nat.le_add_right _ _))) (fun K hK => ?_); go_wp2; (try refine hK _ _ ?_); (try clear hK K)); (refine step_one (i := 17) (by kernel_rfl) rfl (by repeat (with_reducible first | exact Below.refl _ _ | refine bw_later ?_ _ | refine bw_alloc ?_ _ | refine bw_drew ?_ | refine bw_set ?_ (Nat.le_refl _) _ | refine bw_set ?_ ?_ _ | exact Nat.le_refl _ | exact later_size _ _ | refine Nat.le_trans ?_ (later_size _ _) | refine Nat.le_trans ?_ (size_alloc_le _ _) | refine Nat.le_trans ?_ (Nat.le_add_right _ _))) (fun K hK => ?_); go_wp2; (try refine hK _ _ ?_); (try clear hK K)); (refine step_one (i := 18) (by kernel_rfl) rfl (by repeat (with_reducible first | exact Below.refl _ _ | refine bw_later ?_ _ | refine bw_alloc ?_ _ | refine bw_drew ?_ | refine bw_set ?_ (Nat.le_refl _) _ | refine bw_set ?_ ?_ _ | exact Nat.le_refl _ | exact later_size _ _ | refine Nat.le_trans ?_ (later_size _ _) | refine Nat.le_trans ?_ (size_alloc_le _ _) | refine Nat.le_trans ?_ (Nat.le_add_right _ _))) (fun K hK => ?_); go_wp2; (try refine hK _ _ ?_); (try clear hK K)); (refine step_one (i := 19) (by kernel_rfl) rfl (by repeat (with_reducible first | exact Below.refl _ _ | refine bw_later ?_ _ | refine bw_alloc ?_ _ | refine bw_drew ?_ | refine bw_set ?_ (Nat.le_refl _) _ | refine bw_set ?_ ?_ _ | exact Nat.le_refl _ | exact later_size _ _ | refine Nat.le_trans ?_ (later_size _ _) | refine Nat.le_trans ?_ (size_alloc_le _ _) | refine Nat.le_trans ?_ (Nat.le_add_right _ _))) (fun K hK => ?_); go_wp2; (try refine hK _ _ ?_); (try clear hK K)); (refine step_end (by kernel_rfl) (by repeat (with_reducible first | exact Below.refl _ _ | refine bw_later ?_ _ | refine bw_alloc ?_ _ | refine bw_drew ?_ | refine bw_set ?_ (Nat.le_refl _) _ | refine bw_set ?_ ?_ _ | exact Nat.le_refl _ | exact later_size _ _ | refine Nat.le_trans ?_ (later_size _ _) | refine Nat.le_trans ?_ (size_alloc_le _ _) | refine Nat.le_trans ?_ (Nat.le_add_right _ _))) ?_); refine settle3 (w0 := (w.alloc (.cells #[.int .i64 r.a, .int .i64 r.b] 25))) (by repeat (with_reducible first | exact Below.refl _ _ | refine bw_later ?_ _ | refine bw_alloc ?_ _ | refine bw_drew ?_ | refine bw_set ?_ (Nat.le_refl _) _ | refine bw_set ?_ ?_ _ | exact Nat.le_refl _ | exact later_size _ _ | refine Nat.le_trans ?_ (later_size _ _) | refine Nat.le_trans ?_ (size_alloc_le _ _) | refine Nat.le_trans ?_ (Nat.le_add_right _ _))) (fun y f1 f2 f3 f4 f5 f6 l1 l2 l3 => ?_); have l4 := lt_later (w.alloc (.cells #[.int .i64 r.a, .int .i64 r.b] 25)) y w.heap.size (by simp); go_wp2_with (first | ((with_reducible refine wp_region_later (by kernel_rfl) (by kernel_rfl) ?_); (repeat (go_big_quiet_step (fail))); refine wpQuiet_nil ?_; rintro _ ⟨xr, rfl⟩) | (go_at_call 51; (first | refine (hc1.out _).onL ?_ | refine (hc1.out _).on ?_); intro xq; clear hc1) | (go_at_call 51; (first | refine (hc2.out _).onL ?_ | refine (hc2.out _).on ?_); intro xq)); go_ret3; exact ⟨by rw [hfin3.out]; rfl, (by repeat (with_reducible first | exact Below.refl _ _ | refine bw_later ?_ _ | refine bw_alloc ?_ _ | refine bw_drew ?_ | refine bw_set ?_ (Nat.le_refl _) _ | refine bw_set ?_ ?_ _ | exact Nat.le_refl _ | exact later_size _ _ | refine Nat.le_trans ?_ (later_size _ _) | refine Nat.le_trans ?_ (size_alloc_le _ _) | refine Nat.le_trans ?_ (Nat.le_add_right _ _)))⟩
theorem law_TowerAngle (A0 : Option Addr) (n0 c0 : Nat) (xs0 : List Sup) (r1 : R2) (a2 : Int) (w : World) (rd0 : ASup w A0 n0 xs0 ∧ n0 ≤ 9223372036854775807) (_ia2 : I64 a2) : Gv Try.prog 9 #[.slice A0 n0 c0, r1.v, .int .i64 a2] w (.bool true) := by
  obtain ⟨ha0, hm0⟩ := rd0
  replace ha0 := ha0.below2 (w' := (w.alloc (.cells #[.int .i64 r1.a, .int .i64 r1.b] 23))) (bw_alloc (Below.refl _ _) _)
  unfold Gv
  unfold R2.v
  by_cases k0 : 1048576 < n0
  · have z0 : szF n0 ((1048576 : Int)) = -1 := by unfold szF; rw [if_pos (by omega)]
    go_enter Try.func9, Try.ntmps9
    go_wp2_with fail
    refine Calls.mono (szSupport_any A0 n0 c0 ((1048576 : Int)) hm0 (by omega) (by omega) _) ?_
    rintro _ w1 ⟨rfl, b1⟩
    have hw := b1
    rw [z0]
    clear z0
    go_wp2_with fail
    go_ret
    exact ⟨rfl, bw_trans (bw_alloc (Below.refl _ _) _) hw⟩
  · have hn0 : n0 ≤ 1048576 := by omega
    have z0 : szF n0 ((1048576 : Int)) = (1048576 : Int) - (n0 : Int) := by unfold szF; rw [if_neg (by omega)]
    go_enter Try.func9, Try.ntmps9
    go_wp2_with fail
    refine Calls.mono (szSupport_any A0 n0 c0 ((1048576 : Int)) hm0 (by omega) (by omega) _) ?_
    rintro _ w1 ⟨rfl, b1⟩
    replace ha0 := ha0.below2 b1
    have hw := b1
    rw [z0]
    clear z0
    go_wp2_with fail
    (refine wp_region_C (Below (w1).heap.size (w1)) (by kernel_rfl) ?_)
    generalize hgd2 : w1.drew = w2
    have b2 : Below w1.heap.size w1 w2 := by rw [← hgd2]; exact (Below.refl _ _).drew
    clear hgd2
    have f1_0 : w1.cell? ⟨w.heap.size, 0, none⟩ = some (.int .i64 r1.a) := (hw.cell (p := ⟨_, _, none⟩) (by simp)).trans (by simp [go_sem])
    have f1_1 : w1.cell? ⟨w.heap.size, 1, none⟩ = some (.int .i64 r1.b) := (hw.cell (p := ⟨_, _, none⟩) (by simp)).trans (by simp [go_sem])
    have g1_ : w.heap.size < w1.heap.size := by have := hw.size; simp at this; omega
    have hreg := b2
    refine step_read (i := 0) (by kernel_rfl) (by kernel_rfl) rfl hreg rfl (fun K hK => ?_)
    apply Exists.intro
    refine ⟨fun x => ?_, ?_⟩
    · go_simp; (try rfl)
    go_simp; refine hK _ ?_; clear hK K
    refine step_read (i := 2) (by kernel_rfl) (by kernel_rfl) rfl hreg rfl (fun K hK => ?_)
    apply Exists.intro
    refine ⟨fun x => ?_, ?_⟩
    · go_simp; (try rfl)
    go_simp; refine hK _ ?_; clear hK K
    refine step_read (i := 4) (by kernel_rfl) (by kernel_rfl) rfl hreg rfl (fun K hK => ?_)
    apply Exists.intro
    refine ⟨fun x => ?_, ?_⟩
    · go_simp; (try rfl)
    go_simp; refine hK _ ?_; clear hK K
    clear f1_0 f1_1 g1_
    replace ha0 := ha0.below2 b2
    replace hw := bw_trans hw b2
    refine step_one (i := 1) (by kernel_rfl) rfl hreg (fun K hK => ?_)
    go_wp2_with fail
    refine Calls.mono (toSupportS_any A0 n0 c0 xs0 _ ha0 hn0) ?_
    rintro _ w3 ⟨g3, rfl, q3, hB3, b3⟩
    replace ha0 := ha0.below2 b3
    replace hw := bw_trans hw b3
    replace hreg := bw_trans hreg b3
    (try go_wp2)
    (try refine hK _ _ ?_)
    (try clear hK K)
    refine step_one (i := 3) (by kernel_rfl) rfl hreg (fun K hK => ?_)
    go_wp2_with fail
    refine Calls.mono (toRope_any r1 _) ?_
    rintro _ w4 ⟨rfl, b4⟩
    replace ha0 := ha0.below2 b4
    replace hB3 := hB3.below2 b4
    replace hw := bw_trans hw b4
    (try unfold R2.v)
    replace hreg := bw_trans hreg b4
    (try go_wp2)
    (try refine hK _ _ ?_)
    (try clear hK K)
    refine step_one (i := 5) (by kernel_rfl) rfl hreg (fun K hK => ?_)
    go_wp2_with fail
    refine Calls.mono (s_TowerAngle_any g3 0 n0 n0 xs0 r1 a2 _ hB3.reads hn0) ?_
    rintro _ w5 ⟨rfl, b5⟩
    replace ha0 := ha0.below2 b5
    replace hB3 := hB3.below2 b5
    replace hw := bw_trans hw b5
    replace hreg := bw_trans hreg b5
    (try go_wp2)
    (try refine hK _ _ ?_)
    (try clear hK K)
    refine step_read (i := 6) (by kernel_rfl) (by kernel_rfl) rfl hreg rfl (fun K hK => ?_)
    apply Exists.intro
    refine ⟨fun x => ?_, ?_⟩
    · go_simp; (try rfl)
    go_simp; refine hK _ ?_; clear hK K
    refine step_read (i := 7) (by kernel_rfl) (by kernel_rfl) rfl hreg rfl (fun K hK => ?_)
    apply Exists.intro
    refine ⟨fun x => ?_, ?_⟩
    · go_simp; (try rfl)
    go_simp; refine hK _ ?_; clear hK K
    refine step_read (i := 8) (by kernel_rfl) (by kernel_rfl) rfl hreg rfl (fun K hK => ?_)
    apply Exists.intro
    refine ⟨fun x => ?_, ?_⟩
    · go_simp; (try rfl)
    go_simp; refine hK _ ?_; clear hK K
    refine step_read (i := 9) (by kernel_rfl) (by kernel_rfl) rfl hreg rfl (fun K hK => ?_)
    apply Exists.intro
    refine ⟨fun x => ?_, ?_⟩
    · go_simp; (try rfl)
    go_simp; refine hK _ ?_; clear hK K
    refine step_read (i := 10) (by kernel_rfl) (by kernel_rfl) rfl hreg rfl (fun K hK => ?_)
    apply Exists.intro
    refine ⟨fun x => ?_, ?_⟩
    · go_simp; (try rfl)
    go_simp; refine hK _ ?_; clear hK K
    refine step_read (i := 11) (by kernel_rfl) (by kernel_rfl) rfl hreg rfl (fun K hK => ?_)
    apply Exists.intro
    refine ⟨fun x => ?_, ?_⟩
    · go_simp; (try rfl)
    go_simp; refine hK _ ?_; clear hK K
    refine step_read (i := 12) (by kernel_rfl) (by kernel_rfl) rfl hreg rfl (fun K hK => ?_)
    apply Exists.intro
    refine ⟨fun x => ?_, ?_⟩
    · go_simp; (try rfl)
    go_simp; refine hK _ ?_; clear hK K
    refine step_end (by kernel_rfl) hreg ?_
    clear hreg
    go_wp2_with fail
    refine Calls.mono (toSupportS_any A0 n0 c0 xs0 _ ha0 hn0) ?_
    rintro _ w6 ⟨g6, rfl, q6, hB6, b6⟩
    replace ha0 := ha0.below2 b6
    replace hB3 := hB3.below2 b6
    replace hw := bw_trans hw b6
    have e0 : w6.cell? ⟨w.heap.size, 0, none⟩ = some (.int .i64 r1.a) := (hw.cell (p := ⟨_, _, none⟩) (by simp)).trans (by simp [go_sem])
    have e1 : w6.cell? ⟨w.heap.size, 1, none⟩ = some (.int .i64 r1.b) := (hw.cell (p := ⟨_, _, none⟩) (by simp)).trans (by simp [go_sem])
    go_wp2_with fail
    refine Calls.mono (toRope_any r1 _) ?_
    rintro _ w7 ⟨rfl, b7⟩
    replace ha0 := ha0.below2 b7
    replace hB3 := hB3.below2 b7
    replace hB6 := hB6.below2 b7
    replace hw := bw_trans hw b7
    unfold R2.v
    clear e0 e1
    go_wp2_with fail
    refine Calls.mono (i_TowerAngle_any g6 0 n0 n0 xs0 r1 a2 _ hB6.reads hn0) ?_
    rintro _ w8 ⟨rfl, b8⟩
    replace ha0 := ha0.below2 b8
    replace hB3 := hB3.below2 b8
    replace hB6 := hB6.below2 b8
    replace hw := bw_trans hw b8
    go_wp2_with fail
    refine Calls.mono (toSupportS_any A0 n0 c0 xs0 _ ha0 hn0) ?_
    rintro _ w9 ⟨g9, rfl, q9, hB9, b9⟩
    replace ha0 := ha0.below2 b9
    replace hB3 := hB3.below2 b9
    replace hB6 := hB6.below2 b9
    replace hw := bw_trans hw b9
    go_wp2_with fail
    refine Calls.mono (eqSupportS_any _ _ n0 n0 n0 n0 xs0 xs0 _ (ASup.of hB6.reads) (ASup.of hB9.reads) hn0 hn0) ?_
    rintro _ w10 ⟨rfl, b10⟩
    replace ha0 := ha0.below2 b10
    replace hB3 := hB3.below2 b10
    replace hB6 := hB6.below2 b10
    replace hB9 := hB9.below2 b10
    replace hw := bw_trans hw b10
    go_wp2_with fail
    go_ret
    exact ⟨rfl, bw_trans (bw_alloc (Below.refl _ _) _) hw⟩
end Go.Proofs.Ytkdekpnnnpembaa
