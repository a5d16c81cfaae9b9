/- The law on the strength that is left. -/
import Derived.Test.YtagplkdeallbmaaWorstLaw
namespace Go.Proofs.Ytagplkdeallbmaa
open Go.RowKit
def most (a b : Int) : Int := if a > b then a else b
theorem most_any (a b : Int) (w : World) : Gv Try.prog 58 #[.int .i64 a, .int .i64 b] w (.int .i64 (most a b)) := by
  unfold Gv most
  by_cases h : b < a
  all_goals
    go_enter Try.func58, Try.ntmps58
    go_wp2
    go_ret
    exact ⟨ret_int (by first | rfl | (rw [if_pos h]; rfl) | (rw [if_neg (by omega)]; rfl)), (by repeat (with_reducible first | exact Below.refl _ _ | refine bw_later ?_ _ | refine bw_alloc ?_ _ | refine bw_drew ?_ | refine bw_set ?_ (Nat.le_refl _) _ | refine bw_set ?_ (by simp) _ | refine bw_set ?_ (by simp; omega) _))⟩
theorem i_StrengthLeft_any (k : R5) (g off n c : Nat) (xs : List R3) (w : World) (hs : SR3 w g off n xs) (hn : n ≤ 1048576) : Gv Try.prog 35 #[k.v, .slice (some ⟨g, off, none⟩) n c] w (.tuple #[.int .i64 ((leftF k xs)).1, .bool ((leftF k xs)).2]) := by
  unfold Gv
  cases h0 : okDam k xs
  · have hfin := Lib.hid (show leftF k xs = (0, false) by simp [leftF, h0])
    unfold R5.v
    go_enter Try.func35, Try.ntmps35
    go_wp2_with (first | (go_at_call 28; (first | refine (impl_AreDamages_any k g off n c xs _ (by first | exact hs | exact hs.later _ | exact hs.alloc _ | exact (hs.alloc _).later _ | exact (hs.later _).alloc _ | exact ((hs.later _).alloc _).later _ | exact ((hs.alloc _).later _).alloc _) hn).onL ?_ | refine (impl_AreDamages_any k g off n c xs _ (by first | exact hs | exact hs.later _ | exact hs.alloc _ | exact (hs.alloc _).later _ | exact (hs.later _).alloc _ | exact ((hs.later _).alloc _).later _ | exact ((hs.alloc _).later _).alloc _) hn).on ?_); intro x) | (go_at_call 57; (first | refine (i_worst_any g off n c xs 10 (-1) _ (by first | exact hs | exact hs.later _ | exact hs.alloc _ | exact (hs.alloc _).later _ | exact (hs.later _).alloc _ | exact ((hs.later _).alloc _).later _ | exact ((hs.alloc _).later _).alloc _) h15 hx.out (by omega) (by omega)).onL ?_ | refine (i_worst_any g off n c xs 10 (-1) _ (by first | exact hs | exact hs.later _ | exact hs.alloc _ | exact (hs.alloc _).later _ | exact (hs.later _).alloc _ | exact ((hs.later _).alloc _).later _ | exact ((hs.alloc _).later _).alloc _) h15 hx.out (by omega) (by omega)).on ?_); intro x) | ((with_reducible refine wp_region_later (by kernel_rfl) (by kernel_rfl) ?_); (repeat (go_big_quiet_step (fail))); refine wpQuiet_nil ?_; rintro _ ⟨xr, rfl⟩))
    go_ret2
    exact ⟨by rw [hfin.out]; rfl, (by repeat (with_reducible first | exact Below.refl _ _ | refine bw_later ?_ _ | refine bw_alloc ?_ _ | refine bw_drew ?_ | refine bw_set ?_ (Nat.le_refl _) _ | refine bw_set ?_ (by simp) _ | refine bw_set ?_ (by simp; omega) _))⟩
  have hx := Lib.hid (wires_of h0)
  have h15 : n ≤ 15 := by have := (okDam_t h0).2.1; have := hs.2.1; omega
  obtain ⟨-, ⟨b1, b2⟩, ⟨c1, c2⟩, -, ⟨e1, e2⟩⟩ := kind_bd (okDam_t h0).1
  have hfin := Lib.hid (show leftF k xs = (k.e * (if k.b * k.c - (worstTo 0 10 (-1) xs n).2 < 0 then 0 else k.b * k.c - (worstTo 0 10 (-1) xs n).2) / (k.b * k.c), true) by simp [leftF, h0, hs.2.1])
  have hbd := worst_bd (m := 0) (l := 10) (st := -1) hx.out (by omega) (by omega) (by rw [hs.2.1]; exact h15) n
  obtain ⟨-, q1, -, -⟩ := hbd
  have hge := (worst_most (l := 10) (st := -1) hx.out n).1
  have q0 : 0 ≤ (worstTo 0 10 (-1) xs n).2 := by omega
  clear hge
  have p0 : 4 * 7 ≤ k.b * k.c := Int.mul_le_mul b1 c1 (by omega) (by omega)
  obtain ⟨-, p1⟩ := prod_bd (a := k.b) (b := k.c) (A := 8) (B := 40) (by omega) b2 (by omega) c2
  by_cases hneg : k.b * k.c - (worstTo 0 10 (-1) xs n).2 < 0
  · have hfin2 := Lib.hid (hfin.out.trans (by rw [if_pos hneg]) : leftF k xs = (k.e * 0 / (k.b * k.c), true))
    have x1 : max (k.b * k.c - (worstTo 0 10 (-1) xs n).2) 0 = 0 := by omega
    clear hfin
    unfold R5.v
    go_enter Try.func35, Try.ntmps35
    go_wp2_with (first | (go_at_call 28; (first | refine (impl_AreDamages_any k g off n c xs _ (by first | exact hs | exact hs.later _ | exact hs.alloc _ | exact (hs.alloc _).later _ | exact (hs.later _).alloc _ | exact ((hs.later _).alloc _).later _ | exact ((hs.alloc _).later _).alloc _) hn).onL ?_ | refine (impl_AreDamages_any k g off n c xs _ (by first | exact hs | exact hs.later _ | exact hs.alloc _ | exact (hs.alloc _).later _ | exact (hs.later _).alloc _ | exact ((hs.later _).alloc _).later _ | exact ((hs.alloc _).later _).alloc _) hn).on ?_); intro x) | (go_at_call 57; (first | refine (i_worst_any g off n c xs 10 (-1) _ (by first | exact hs | exact hs.later _ | exact hs.alloc _ | exact (hs.alloc _).later _ | exact (hs.later _).alloc _ | exact ((hs.later _).alloc _).later _ | exact ((hs.alloc _).later _).alloc _) h15 hx.out (by omega) (by omega)).onL ?_ | refine (i_worst_any g off n c xs 10 (-1) _ (by first | exact hs | exact hs.later _ | exact hs.alloc _ | exact (hs.alloc _).later _ | exact (hs.later _).alloc _ | exact ((hs.later _).alloc _).later _ | exact ((hs.alloc _).later _).alloc _) h15 hx.out (by omega) (by omega)).on ?_); intro x) | ((with_reducible refine wp_region_later (by kernel_rfl) (by kernel_rfl) ?_); (repeat (go_big_quiet_step (fail))); refine wpQuiet_nil ?_; rintro _ ⟨xr, rfl⟩))
    go_ret2
    exact ⟨by rw [hfin2.out]; first | rfl | simp, (by repeat (with_reducible first | exact Below.refl _ _ | refine bw_later ?_ _ | refine bw_alloc ?_ _ | refine bw_drew ?_ | refine bw_set ?_ (Nat.le_refl _) _ | refine bw_set ?_ (by simp) _ | refine bw_set ?_ (by simp; omega) _))⟩
  · have hfin2 := Lib.hid (hfin.out.trans (by rw [if_neg hneg]) : leftF k xs = (k.e * (k.b * k.c - (worstTo 0 10 (-1) xs n).2) / (k.b * k.c), true))
    have x1 : max (k.b * k.c - (worstTo 0 10 (-1) xs n).2) 0 = k.b * k.c - (worstTo 0 10 (-1) xs n).2 := by omega
    obtain ⟨v0, v1⟩ := prod_bd (a := k.e) (b := k.b * k.c - (worstTo 0 10 (-1) xs n).2) (A := 5000) (B := 320) (by omega) e2 (by omega) (by omega)
    clear hfin
    unfold R5.v
    go_enter Try.func35, Try.ntmps35
    go_wp2_with (first | (go_at_call 28; (first | refine (impl_AreDamages_any k g off n c xs _ (by first | exact hs | exact hs.later _ | exact hs.alloc _ | exact (hs.alloc _).later _ | exact (hs.later _).alloc _ | exact ((hs.later _).alloc _).later _ | exact ((hs.alloc _).later _).alloc _) hn).onL ?_ | refine (impl_AreDamages_any k g off n c xs _ (by first | exact hs | exact hs.later _ | exact hs.alloc _ | exact (hs.alloc _).later _ | exact (hs.later _).alloc _ | exact ((hs.later _).alloc _).later _ | exact ((hs.alloc _).later _).alloc _) hn).on ?_); intro x) | (go_at_call 57; (first | refine (i_worst_any g off n c xs 10 (-1) _ (by first | exact hs | exact hs.later _ | exact hs.alloc _ | exact (hs.alloc _).later _ | exact (hs.later _).alloc _ | exact ((hs.later _).alloc _).later _ | exact ((hs.alloc _).later _).alloc _) h15 hx.out (by omega) (by omega)).onL ?_ | refine (i_worst_any g off n c xs 10 (-1) _ (by first | exact hs | exact hs.later _ | exact hs.alloc _ | exact (hs.alloc _).later _ | exact (hs.later _).alloc _ | exact ((hs.later _).alloc _).later _ | exact ((hs.alloc _).later _).alloc _) h15 hx.out (by omega) (by omega)).on ?_); intro x) | ((with_reducible refine wp_region_later (by kernel_rfl) (by kernel_rfl) ?_); (repeat (go_big_quiet_step (fail))); refine wpQuiet_nil ?_; rintro _ ⟨xr, rfl⟩))
    go_ret2
    exact ⟨by rw [hfin2.out]; rfl, (by repeat (with_reducible first | exact Below.refl _ _ | refine bw_later ?_ _ | refine bw_alloc ?_ _ | refine bw_drew ?_ | refine bw_set ?_ (Nat.le_refl _) _ | refine bw_set ?_ (by simp) _ | refine bw_set ?_ (by simp; omega) _))⟩
theorem s_StrengthLeft_any (k : R5) (g off n c : Nat) (xs : List R3) (w : World) (hs : SR3 w g off n xs) (hn : n ≤ 1048576) : Gv Try.prog 34 #[k.v, .slice (some ⟨g, off, none⟩) n c] w (.tuple #[.int .i64 ((leftF k xs)).1, .bool ((leftF k xs)).2]) := by
  unfold Gv
  cases h0 : okDam k xs
  · have hfin := Lib.hid (show leftF k xs = (0, false) by simp [leftF, h0])
    unfold R5.v
    go_enter Try.func34, Try.ntmps34
    go_wp2_with (first | (go_at_call 48; (first | refine (l3Good_any k g off n c xs _ (by first | exact hs | exact hs.later _ | exact hs.alloc _ | exact (hs.alloc _).later _ | exact (hs.later _).alloc _ | exact ((hs.later _).alloc _).later _ | exact ((hs.alloc _).later _).alloc _) hn).onL ?_ | refine (l3Good_any k g off n c xs _ (by first | exact hs | exact hs.later _ | exact hs.alloc _ | exact (hs.alloc _).later _ | exact (hs.later _).alloc _ | exact ((hs.later _).alloc _).later _ | exact ((hs.alloc _).later _).alloc _) hn).on ?_); intro x) | (go_at_call 56; (first | refine (s_worst_any g off n c xs 10 (-1) _ (by first | exact hs | exact hs.later _ | exact hs.alloc _ | exact (hs.alloc _).later _ | exact (hs.later _).alloc _ | exact ((hs.later _).alloc _).later _ | exact ((hs.alloc _).later _).alloc _) h15 hx.out (by omega) (by omega)).onL ?_ | refine (s_worst_any g off n c xs 10 (-1) _ (by first | exact hs | exact hs.later _ | exact hs.alloc _ | exact (hs.alloc _).later _ | exact (hs.later _).alloc _ | exact ((hs.later _).alloc _).later _ | exact ((hs.alloc _).later _).alloc _) h15 hx.out (by omega) (by omega)).on ?_); intro x) | (go_at_call 58; (first | refine (most_any _ _ _).onL ?_ | refine (most_any _ _ _).on ?_); intro x) | ((with_reducible refine wp_region_later (by kernel_rfl) (by kernel_rfl) ?_); (repeat (go_big_quiet_step ((go_at_call 58; exact (most_any _ _ _).quiet)))); refine wpQuiet_nil ?_; rintro _ ⟨xr, rfl⟩))
    go_ret2
    exact ⟨by rw [hfin.out]; rfl, (by repeat (with_reducible first | exact Below.refl _ _ | refine bw_later ?_ _ | refine bw_alloc ?_ _ | refine bw_drew ?_ | refine bw_set ?_ (Nat.le_refl _) _ | refine bw_set ?_ (by simp) _ | refine bw_set ?_ (by simp; omega) _))⟩
  have hx := Lib.hid (wires_of h0)
  have h15 : n ≤ 15 := by have := (okDam_t h0).2.1; have := hs.2.1; omega
  obtain ⟨-, ⟨b1, b2⟩, ⟨c1, c2⟩, -, ⟨e1, e2⟩⟩ := kind_bd (okDam_t h0).1
  have hfin := Lib.hid (show leftF k xs = (k.e * (if k.b * k.c - (worstTo 0 10 (-1) xs n).2 < 0 then 0 else k.b * k.c - (worstTo 0 10 (-1) xs n).2) / (k.b * k.c), true) by simp [leftF, h0, hs.2.1])
  have hbd := worst_bd (m := 0) (l := 10) (st := -1) hx.out (by omega) (by omega) (by rw [hs.2.1]; exact h15) n
  obtain ⟨-, q1, -, -⟩ := hbd
  have hge := (worst_most (l := 10) (st := -1) hx.out n).1
  have q0 : 0 ≤ (worstTo 0 10 (-1) xs n).2 := by omega
  clear hge
  have p0 : 4 * 7 ≤ k.b * k.c := Int.mul_le_mul b1 c1 (by omega) (by omega)
  obtain ⟨-, p1⟩ := prod_bd (a := k.b) (b := k.c) (A := 8) (B := 40) (by omega) b2 (by omega) c2
  by_cases hneg : k.b * k.c - (worstTo 0 10 (-1) xs n).2 < 0
  · have hfin2 := Lib.hid (hfin.out.trans (by rw [if_pos hneg]) : leftF k xs = (k.e * 0 / (k.b * k.c), true))
    have x1 : most 0 (k.b * k.c - (worstTo 0 10 (-1) xs n).2) = 0 := by unfold most; split <;> omega
    clear hfin
    unfold R5.v
    go_enter Try.func34, Try.ntmps34
    go_wp2_with (first | (go_at_call 48; (first | refine (l3Good_any k g off n c xs _ (by first | exact hs | exact hs.later _ | exact hs.alloc _ | exact (hs.alloc _).later _ | exact (hs.later _).alloc _ | exact ((hs.later _).alloc _).later _ | exact ((hs.alloc _).later _).alloc _) hn).onL ?_ | refine (l3Good_any k g off n c xs _ (by first | exact hs | exact hs.later _ | exact hs.alloc _ | exact (hs.alloc _).later _ | exact (hs.later _).alloc _ | exact ((hs.later _).alloc _).later _ | exact ((hs.alloc _).later _).alloc _) hn).on ?_); intro x) | (go_at_call 56; (first | refine (s_worst_any g off n c xs 10 (-1) _ (by first | exact hs | exact hs.later _ | exact hs.alloc _ | exact (hs.alloc _).later _ | exact (hs.later _).alloc _ | exact ((hs.later _).alloc _).later _ | exact ((hs.alloc _).later _).alloc _) h15 hx.out (by omega) (by omega)).onL ?_ | refine (s_worst_any g off n c xs 10 (-1) _ (by first | exact hs | exact hs.later _ | exact hs.alloc _ | exact (hs.alloc _).later _ | exact (hs.later _).alloc _ | exact ((hs.later _).alloc _).later _ | exact ((hs.alloc _).later _).alloc _) h15 hx.out (by omega) (by omega)).on ?_); intro x) | (go_at_call 58; (first | refine (most_any _ _ _).onL ?_ | refine (most_any _ _ _).on ?_); intro x) | ((with_reducible refine wp_region_later (by kernel_rfl) (by kernel_rfl) ?_); (repeat (go_big_quiet_step ((go_at_call 58; exact (most_any _ _ _).quiet)))); refine wpQuiet_nil ?_; rintro _ ⟨xr, rfl⟩))
    go_ret2
    exact ⟨by rw [hfin2.out]; first | rfl | simp, (by repeat (with_reducible first | exact Below.refl _ _ | refine bw_later ?_ _ | refine bw_alloc ?_ _ | refine bw_drew ?_ | refine bw_set ?_ (Nat.le_refl _) _ | refine bw_set ?_ (by simp) _ | refine bw_set ?_ (by simp; omega) _))⟩
  · have hfin2 := Lib.hid (hfin.out.trans (by rw [if_neg hneg]) : leftF k xs = (k.e * (k.b * k.c - (worstTo 0 10 (-1) xs n).2) / (k.b * k.c), true))
    have x1 : most 0 (k.b * k.c - (worstTo 0 10 (-1) xs n).2) = k.b * k.c - (worstTo 0 10 (-1) xs n).2 := by unfold most; split <;> omega
    obtain ⟨v0, v1⟩ := prod_bd (a := k.e) (b := k.b * k.c - (worstTo 0 10 (-1) xs n).2) (A := 5000) (B := 320) (by omega) e2 (by omega) (by omega)
    clear hfin
    unfold R5.v
    go_enter Try.func34, Try.ntmps34
    go_wp2_with (first | (go_at_call 48; (first | refine (l3Good_any k g off n c xs _ (by first | exact hs | exact hs.later _ | exact hs.alloc _ | exact (hs.alloc _).later _ | exact (hs.later _).alloc _ | exact ((hs.later _).alloc _).later _ | exact ((hs.alloc _).later _).alloc _) hn).onL ?_ | refine (l3Good_any k g off n c xs _ (by first | exact hs | exact hs.later _ | exact hs.alloc _ | exact (hs.alloc _).later _ | exact (hs.later _).alloc _ | exact ((hs.later _).alloc _).later _ | exact ((hs.alloc _).later _).alloc _) hn).on ?_); intro x) | (go_at_call 56; (first | refine (s_worst_any g off n c xs 10 (-1) _ (by first | exact hs | exact hs.later _ | exact hs.alloc _ | exact (hs.alloc _).later _ | exact (hs.later _).alloc _ | exact ((hs.later _).alloc _).later _ | exact ((hs.alloc _).later _).alloc _) h15 hx.out (by omega) (by omega)).onL ?_ | refine (s_worst_any g off n c xs 10 (-1) _ (by first | exact hs | exact hs.later _ | exact hs.alloc _ | exact (hs.alloc _).later _ | exact (hs.later _).alloc _ | exact ((hs.later _).alloc _).later _ | exact ((hs.alloc _).later _).alloc _) h15 hx.out (by omega) (by omega)).on ?_); intro x) | (go_at_call 58; (first | refine (most_any _ _ _).onL ?_ | refine (most_any _ _ _).on ?_); intro x) | ((with_reducible refine wp_region_later (by kernel_rfl) (by kernel_rfl) ?_); (repeat (go_big_quiet_step ((go_at_call 58; exact (most_any _ _ _).quiet)))); refine wpQuiet_nil ?_; rintro _ ⟨xr, rfl⟩))
    go_ret2
    exact ⟨by rw [hfin2.out]; rfl, (by repeat (with_reducible first | exact Below.refl _ _ | refine bw_later ?_ _ | refine bw_alloc ?_ _ | refine bw_drew ?_ | refine bw_set ?_ (Nat.le_refl _) _ | refine bw_set ?_ (by simp) _ | refine bw_set ?_ (by simp; omega) _))⟩
theorem law_StrengthLeft (r0 : R5) (A1 : Option Addr) (n1 c1 : Nat) (xs1 : List R3) (w : World) (rd1 : AR3 w A1 n1 xs1 ∧ n1 ≤ 9223372036854775807) : Gv Try.prog 10 #[r0.v, .slice A1 n1 c1] w (.bool true) := by
  obtain ⟨ha1, hm1⟩ := rd1
  replace ha1 := ha1.below2 (w' := (w.alloc (.cells #[.int .i64 r0.a, .int .i64 r0.b, .int .i64 r0.c, .int .i64 r0.d, .int .i64 r0.e] 23))) (bw_alloc (Below.refl _ _) _)
  unfold Gv
  unfold R5.v
  by_cases k1 : 1048576 < n1
  · have z1 : szF n1 ((1048576 : Int)) = -1 := by unfold szF; rw [if_pos (by omega)]
    go_enter Try.func10, Try.ntmps10
    go_wp2_with fail
    refine Calls.mono (szDamage_any A1 n1 c1 ((1048576 : Int)) hm1 (by omega) (by omega) _) ?_
    rintro _ w1 ⟨rfl, b1⟩
    have hw := b1
    rw [z1]
    clear z1
    go_wp2_with fail
    go_ret
    exact ⟨rfl, bw_trans (bw_alloc (Below.refl _ _) _) hw⟩
  · have hn1 : n1 ≤ 1048576 := by omega
    have z1 : szF n1 ((1048576 : Int)) = (1048576 : Int) - (n1 : Int) := by unfold szF; rw [if_neg (by omega)]
    go_enter Try.func10, Try.ntmps10
    go_wp2_with fail
    refine Calls.mono (szDamage_any A1 n1 c1 ((1048576 : Int)) hm1 (by omega) (by omega) _) ?_
    rintro _ w1 ⟨rfl, b1⟩
    replace ha1 := ha1.below2 b1
    have hw := b1
    rw [z1]
    clear z1
    have e0 : w1.cell? ⟨w.heap.size, 0, none⟩ = some (.int .i64 r0.a) := (hw.cell (p := ⟨_, _, none⟩) (by simp)).trans (by simp [go_sem])
    have e1 : w1.cell? ⟨w.heap.size, 1, none⟩ = some (.int .i64 r0.b) := (hw.cell (p := ⟨_, _, none⟩) (by simp)).trans (by simp [go_sem])
    have e2 : w1.cell? ⟨w.heap.size, 2, none⟩ = some (.int .i64 r0.c) := (hw.cell (p := ⟨_, _, none⟩) (by simp)).trans (by simp [go_sem])
    have e3 : w1.cell? ⟨w.heap.size, 3, none⟩ = some (.int .i64 r0.d) := (hw.cell (p := ⟨_, _, none⟩) (by simp)).trans (by simp [go_sem])
    have e4 : w1.cell? ⟨w.heap.size, 4, none⟩ = some (.int .i64 r0.e) := (hw.cell (p := ⟨_, _, none⟩) (by simp)).trans (by simp [go_sem])
    go_wp2_with fail
    refine Calls.mono (toRopeKind_any r0 _) ?_
    rintro _ w2 ⟨rfl, b2⟩
    replace ha1 := ha1.below2 b2
    replace hw := bw_trans hw b2
    unfold R5.v
    clear e0 e1 e2 e3 e4
    go_wp2_with fail
    refine Calls.mono (toDamageS_any A1 n1 c1 xs1 _ ha1 hn1) ?_
    rintro _ w3 ⟨g3, rfl, q3, hB3, b3⟩
    replace ha1 := ha1.below2 b3
    replace hw := bw_trans hw b3
    go_wp2_with fail
    refine Calls.mono (s_StrengthLeft_any r0 g3 0 n1 n1 xs1 _ hB3.reads hn1) ?_
    rintro _ w4 ⟨rfl, b4⟩
    replace ha1 := ha1.below2 b4
    replace hB3 := hB3.below2 b4
    replace hw := bw_trans hw b4
    go_wp2_with fail
    refine Calls.mono (toDamageS_any A1 n1 c1 xs1 _ ha1 hn1) ?_
    rintro _ w5 ⟨g5, rfl, q5, hB5, b5⟩
    replace ha1 := ha1.below2 b5
    replace hB3 := hB3.below2 b5
    replace hw := bw_trans hw b5
    have e0 : w5.cell? ⟨w.heap.size, 0, none⟩ = some (.int .i64 r0.a) := (hw.cell (p := ⟨_, _, none⟩) (by simp)).trans (by simp [go_sem])
    have e1 : w5.cell? ⟨w.heap.size, 1, none⟩ = some (.int .i64 r0.b) := (hw.cell (p := ⟨_, _, none⟩) (by simp)).trans (by simp [go_sem])
    have e2 : w5.cell? ⟨w.heap.size, 2, none⟩ = some (.int .i64 r0.c) := (hw.cell (p := ⟨_, _, none⟩) (by simp)).trans (by simp [go_sem])
    have e3 : w5.cell? ⟨w.heap.size, 3, none⟩ = some (.int .i64 r0.d) := (hw.cell (p := ⟨_, _, none⟩) (by simp)).trans (by simp [go_sem])
    have e4 : w5.cell? ⟨w.heap.size, 4, none⟩ = some (.int .i64 r0.e) := (hw.cell (p := ⟨_, _, none⟩) (by simp)).trans (by simp [go_sem])
    go_wp2_with fail
    refine Calls.mono (toRopeKind_any r0 _) ?_
    rintro _ w6 ⟨rfl, b6⟩
    replace ha1 := ha1.below2 b6
    replace hB3 := hB3.below2 b6
    replace hB5 := hB5.below2 b6
    replace hw := bw_trans hw b6
    unfold R5.v
    clear e0 e1 e2 e3 e4
    go_wp2_with fail
    refine Calls.mono (i_StrengthLeft_any r0 g5 0 n1 n1 xs1 _ hB5.reads hn1) ?_
    rintro _ w7 ⟨rfl, b7⟩
    replace ha1 := ha1.below2 b7
    replace hB3 := hB3.below2 b7
    replace hB5 := hB5.below2 b7
    replace hw := bw_trans hw b7
    go_wp2_with fail
    refine Calls.mono (toDamageS_any A1 n1 c1 xs1 _ ha1 hn1) ?_
    rintro _ w8 ⟨g8, rfl, q8, hB8, b8⟩
    replace ha1 := ha1.below2 b8
    replace hB3 := hB3.below2 b8
    replace hB5 := hB5.below2 b8
    replace hw := bw_trans hw b8
    go_wp2_with fail
    refine Calls.mono (eqDamageS_any _ _ n1 n1 n1 n1 xs1 xs1 _ (AR3.of hB5.reads) (AR3.of hB8.reads) hn1 hn1) ?_
    rintro _ w9 ⟨rfl, b9⟩
    replace ha1 := ha1.below2 b9
    replace hB3 := hB3.below2 b9
    replace hB5 := hB5.below2 b9
    replace hB8 := hB8.below2 b9
    replace hw := bw_trans hw b9
    go_wp2_with fail
    go_ret
    exact ⟨rfl, bw_trans (bw_alloc (Below.refl _ _) _) hw⟩
end Go.Proofs.Ytagplkdeallbmaa
