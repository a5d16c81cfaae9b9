/- Lists of cabins: their validity. -/
import Derived.Test.YtnemamokjikdeaaCabin
import Derived.Test.YtnemamokjikdeaaList
namespace Go.Proofs.Ytnemamokjikdeaa
open Go.RowKit
theorem impl_AreCabins_any (g off n c : Nat) (xs : List R5) (w : World) (hs : SR5 w g off n xs) (hn : n ≤ 1048576) : Gv Try.prog 20 #[.slice (some ⟨g, off, none⟩) n c] w (.bool (good isCabin xs && decide (n ≤ 12))) := by
  unfold Gv
  have hl := Lib.hid hs.2.1
  go_enter Try.func20, Try.ntmps20
  go_wp2
  go_loopw [7] (fun i wr => ∃ k : Nat, Below w.heap.size w wr ∧ k ≤ n ∧ i = .int .i64 (k : Int) ∧ Hid (∀ j, j < k → goodAt isCabin xs j = true)) (fun i _ => n - (intOf i).toNat)
  case atStart => exact ⟨0, Below.refl _ _, by omega, rfl, fun j hj => absurd hj (by omega)⟩
  case round =>
    obtain ⟨k, hb, hk, rfl, ha⟩ := hrel
    obtain ⟨y, rfl⟩ := exists_later hb
    clear hb
    by_cases hlt : k < n
    · obtain ⟨r, hr0⟩ := hs.at_ hlt
      obtain ⟨c0, c1, c2, c3, c4⟩ := hs.2.2 k r hr0
      have hg := hs.1
      have hr := Lib.hid hr0
      clear hr0
      cases hp : isCabin r
      · cases k with
        | zero =>
          simp only [Nat.zero_mul, Nat.add_zero] at c0 c1 c2 c3 c4
          go_wp2_with (first | ((with_reducible refine wp_region_later (by kernel_rfl) (by kernel_rfl) ?_); (repeat (go_big_quiet_step ((go_at_call 14; exact (impl_IsCabin_any r _).quiet)))); refine wpQuiet_nil ?_; rintro _ ⟨xr, rfl⟩) | fail)
          go_ret
          exact ⟨ret_bool (by rw [good_f (by rw [hl.out]; exact hlt) (goodAt_no hr.out hp)]; rfl), (by repeat (with_reducible first | exact Below.refl _ _ | refine bw_later ?_ _ | refine bw_alloc ?_ _ | refine bw_drew ?_ | refine bw_set ?_ (Nat.le_refl _) _ | refine bw_set ?_ ?_ _ | exact Nat.le_refl _ | exact later_size _ _ | refine Nat.le_trans ?_ (later_size _ _) | refine Nat.le_trans ?_ (size_alloc_le _ _) | refine Nat.le_trans ?_ (Nat.le_add_right _ _)))⟩
        | succ j =>
          go_wp2_with (first | ((with_reducible refine wp_region_later (by kernel_rfl) (by kernel_rfl) ?_); (repeat (go_big_quiet_step ((go_at_call 14; exact (impl_IsCabin_any r _).quiet)))); refine wpQuiet_nil ?_; rintro _ ⟨xr, rfl⟩) | fail)
          go_ret
          exact ⟨ret_bool (by rw [good_f (by rw [hl.out]; exact hlt) (goodAt_no hr.out hp)]; rfl), (by repeat (with_reducible first | exact Below.refl _ _ | refine bw_later ?_ _ | refine bw_alloc ?_ _ | refine bw_drew ?_ | refine bw_set ?_ (Nat.le_refl _) _ | refine bw_set ?_ ?_ _ | exact Nat.le_refl _ | exact later_size _ _ | refine Nat.le_trans ?_ (later_size _ _) | refine Nat.le_trans ?_ (size_alloc_le _ _) | refine Nat.le_trans ?_ (Nat.le_add_right _ _)))⟩
      · cases k with
        | zero =>
          simp only [Nat.zero_mul, Nat.add_zero] at c0 c1 c2 c3 c4
          go_wp2_with (first | ((with_reducible refine wp_region_later (by kernel_rfl) (by kernel_rfl) ?_); (repeat (go_big_quiet_step ((go_at_call 14; exact (impl_IsCabin_any r _).quiet)))); refine wpQuiet_nil ?_; rintro _ ⟨xr, rfl⟩) | fail)
          go_roundw
          case rel => exact ⟨1, (by repeat (with_reducible first | exact Below.refl _ _ | refine bw_later ?_ _ | refine bw_alloc ?_ _ | refine bw_drew ?_ | refine bw_set ?_ (Nat.le_refl _) _ | refine bw_set ?_ ?_ _ | exact Nat.le_refl _ | exact later_size _ _ | refine Nat.le_trans ?_ (later_size _ _) | refine Nat.le_trans ?_ (size_alloc_le _ _) | refine Nat.le_trans ?_ (Nat.le_add_right _ _))), by omega, by go_num, ahead_step ha.out (goodAt_0 hr.out hp)⟩
          case measure => simp [intOf]; omega
        | succ j =>
          obtain ⟨q, hq0⟩ := hs.at_ (k := j) (by omega)
          obtain ⟨d0, -, -, -, -⟩ := hs.2.2 j q hq0
          have hq := Lib.hid hq0
          clear hq0
          by_cases hcmp : q.a < r.a
          · have hcmp' : decide (r.a ≤ q.a) = false := by simp; omega
            go_wp2_with (first | ((with_reducible refine wp_region_later (by kernel_rfl) (by kernel_rfl) ?_); (repeat (go_big_quiet_step ((go_at_call 14; exact (impl_IsCabin_any r _).quiet)))); refine wpQuiet_nil ?_; rintro _ ⟨xr, rfl⟩) | fail)
            go_roundw
            case rel => exact ⟨j + 1 + 1, (by repeat (with_reducible first | exact Below.refl _ _ | refine bw_later ?_ _ | refine bw_alloc ?_ _ | refine bw_drew ?_ | refine bw_set ?_ (Nat.le_refl _) _ | refine bw_set ?_ ?_ _ | exact Nat.le_refl _ | exact later_size _ _ | refine Nat.le_trans ?_ (later_size _ _) | refine Nat.le_trans ?_ (size_alloc_le _ _) | refine Nat.le_trans ?_ (Nat.le_add_right _ _))), by omega, by go_num, ahead_step ha.out (goodAt_lt hr.out hq.out hp hcmp)⟩
            case measure => simp [intOf]; omega
          · have hcmp' : decide (r.a ≤ q.a) = true := by simp; omega
            go_wp2_with (first | ((with_reducible refine wp_region_later (by kernel_rfl) (by kernel_rfl) ?_); (repeat (go_big_quiet_step ((go_at_call 14; exact (impl_IsCabin_any r _).quiet)))); refine wpQuiet_nil ?_; rintro _ ⟨xr, rfl⟩) | fail)
            go_ret
            exact ⟨ret_bool (by rw [good_f (by rw [hl.out]; exact hlt) (goodAt_ge hr.out hq.out hp (by omega))]; rfl), (by repeat (with_reducible first | exact Below.refl _ _ | refine bw_later ?_ _ | refine bw_alloc ?_ _ | refine bw_drew ?_ | refine bw_set ?_ (Nat.le_refl _) _ | refine bw_set ?_ ?_ _ | exact Nat.le_refl _ | exact later_size _ _ | refine Nat.le_trans ?_ (later_size _ _) | refine Nat.le_trans ?_ (size_alloc_le _ _) | refine Nat.le_trans ?_ (Nat.le_add_right _ _)))⟩
    · obtain rfl : k = n := by omega
      go_wp2
      go_ret
      exact ⟨ret_bool (by rw [good_t (fun i hi => ha.out i (by have := hl.out; omega))]; simp; try omega), (by repeat (with_reducible first | exact Below.refl _ _ | refine bw_later ?_ _ | refine bw_alloc ?_ _ | refine bw_drew ?_ | refine bw_set ?_ (Nat.le_refl _) _ | refine bw_set ?_ ?_ _ | exact Nat.le_refl _ | exact later_size _ _ | refine Nat.le_trans ?_ (later_size _ _) | refine Nat.le_trans ?_ (size_alloc_le _ _) | refine Nat.le_trans ?_ (Nat.le_add_right _ _)))⟩
theorem l5Good_any (g off n c : Nat) (xs : List R5) (w : World) (hs : SR5 w g off n xs) (hn : n ≤ 1048576) : Gv Try.prog 42 #[.slice (some ⟨g, off, none⟩) n c] w (.bool (good isCabin xs && decide (n ≤ 12))) := by
  unfold Gv
  have hl := Lib.hid hs.2.1
  go_enter Try.func42, Try.ntmps42
  go_wp2
  go_loopw [3] (fun i wr => ∃ k : Nat, Below w.heap.size w wr ∧ k ≤ n ∧ i = .int .i64 (k : Int) ∧ Hid (∀ j, j < k → goodAt isCabin xs j = true)) (fun i _ => n - (intOf i).toNat)
  case atStart => exact ⟨0, Below.refl _ _, by omega, rfl, fun j hj => absurd hj (by omega)⟩
  case round =>
    obtain ⟨k, hb, hk, rfl, ha⟩ := hrel
    obtain ⟨y, rfl⟩ := exists_later hb
    clear hb
    by_cases hlt : k < n
    · obtain ⟨r, hr0⟩ := hs.at_ hlt
      obtain ⟨c0, c1, c2, c3, c4⟩ := hs.2.2 k r hr0
      have hg := hs.1
      have hr := Lib.hid hr0
      clear hr0
      cases hp : isCabin r
      · cases k with
        | zero =>
          simp only [Nat.zero_mul, Nat.add_zero] at c0 c1 c2 c3 c4
          go_wp2_with (first | ((with_reducible refine wp_region_later (by kernel_rfl) (by kernel_rfl) ?_); (repeat (go_big_quiet_step ((go_at_call 39; exact (l5One_any r _).quiet)))); refine wpQuiet_nil ?_; rintro _ ⟨xr, rfl⟩) | fail)
          go_ret
          exact ⟨ret_bool (by rw [good_f (by rw [hl.out]; exact hlt) (goodAt_no hr.out hp)]; rfl), (by repeat (with_reducible first | exact Below.refl _ _ | refine bw_later ?_ _ | refine bw_alloc ?_ _ | refine bw_drew ?_ | refine bw_set ?_ (Nat.le_refl _) _ | refine bw_set ?_ ?_ _ | exact Nat.le_refl _ | exact later_size _ _ | refine Nat.le_trans ?_ (later_size _ _) | refine Nat.le_trans ?_ (size_alloc_le _ _) | refine Nat.le_trans ?_ (Nat.le_add_right _ _)))⟩
        | succ j =>
          go_wp2_with (first | ((with_reducible refine wp_region_later (by kernel_rfl) (by kernel_rfl) ?_); (repeat (go_big_quiet_step ((go_at_call 39; exact (l5One_any r _).quiet)))); refine wpQuiet_nil ?_; rintro _ ⟨xr, rfl⟩) | fail)
          go_ret
          exact ⟨ret_bool (by rw [good_f (by rw [hl.out]; exact hlt) (goodAt_no hr.out hp)]; rfl), (by repeat (with_reducible first | exact Below.refl _ _ | refine bw_later ?_ _ | refine bw_alloc ?_ _ | refine bw_drew ?_ | refine bw_set ?_ (Nat.le_refl _) _ | refine bw_set ?_ ?_ _ | exact Nat.le_refl _ | exact later_size _ _ | refine Nat.le_trans ?_ (later_size _ _) | refine Nat.le_trans ?_ (size_alloc_le _ _) | refine Nat.le_trans ?_ (Nat.le_add_right _ _)))⟩
      · cases k with
        | zero =>
          simp only [Nat.zero_mul, Nat.add_zero] at c0 c1 c2 c3 c4
          go_wp2_with (first | ((with_reducible refine wp_region_later (by kernel_rfl) (by kernel_rfl) ?_); (repeat (go_big_quiet_step ((go_at_call 39; exact (l5One_any r _).quiet)))); refine wpQuiet_nil ?_; rintro _ ⟨xr, rfl⟩) | fail)
          go_roundw
          case rel => exact ⟨1, (by repeat (with_reducible first | exact Below.refl _ _ | refine bw_later ?_ _ | refine bw_alloc ?_ _ | refine bw_drew ?_ | refine bw_set ?_ (Nat.le_refl _) _ | refine bw_set ?_ ?_ _ | exact Nat.le_refl _ | exact later_size _ _ | refine Nat.le_trans ?_ (later_size _ _) | refine Nat.le_trans ?_ (size_alloc_le _ _) | refine Nat.le_trans ?_ (Nat.le_add_right _ _))), by omega, by go_num, ahead_step ha.out (goodAt_0 hr.out hp)⟩
          case measure => simp [intOf]; omega
        | succ j =>
          obtain ⟨q, hq0⟩ := hs.at_ (k := j) (by omega)
          obtain ⟨d0, -, -, -, -⟩ := hs.2.2 j q hq0
          have hq := Lib.hid hq0
          clear hq0
          by_cases hcmp : q.a < r.a
          · have hcmp' : decide (r.a ≤ q.a) = false := by simp; omega
            go_wp2_with (first | ((with_reducible refine wp_region_later (by kernel_rfl) (by kernel_rfl) ?_); (repeat (go_big_quiet_step ((go_at_call 39; exact (l5One_any r _).quiet)))); refine wpQuiet_nil ?_; rintro _ ⟨xr, rfl⟩) | fail)
            go_roundw
            case rel => exact ⟨j + 1 + 1, (by repeat (with_reducible first | exact Below.refl _ _ | refine bw_later ?_ _ | refine bw_alloc ?_ _ | refine bw_drew ?_ | refine bw_set ?_ (Nat.le_refl _) _ | refine bw_set ?_ ?_ _ | exact Nat.le_refl _ | exact later_size _ _ | refine Nat.le_trans ?_ (later_size _ _) | refine Nat.le_trans ?_ (size_alloc_le _ _) | refine Nat.le_trans ?_ (Nat.le_add_right _ _))), by omega, by go_num, ahead_step ha.out (goodAt_lt hr.out hq.out hp hcmp)⟩
            case measure => simp [intOf]; omega
          · have hcmp' : decide (r.a ≤ q.a) = true := by simp; omega
            go_wp2_with (first | ((with_reducible refine wp_region_later (by kernel_rfl) (by kernel_rfl) ?_); (repeat (go_big_quiet_step ((go_at_call 39; exact (l5One_any r _).quiet)))); refine wpQuiet_nil ?_; rintro _ ⟨xr, rfl⟩) | fail)
            go_ret
            exact ⟨ret_bool (by rw [good_f (by rw [hl.out]; exact hlt) (goodAt_ge hr.out hq.out hp (by omega))]; rfl), (by repeat (with_reducible first | exact Below.refl _ _ | refine bw_later ?_ _ | refine bw_alloc ?_ _ | refine bw_drew ?_ | refine bw_set ?_ (Nat.le_refl _) _ | refine bw_set ?_ ?_ _ | exact Nat.le_refl _ | exact later_size _ _ | refine Nat.le_trans ?_ (later_size _ _) | refine Nat.le_trans ?_ (size_alloc_le _ _) | refine Nat.le_trans ?_ (Nat.le_add_right _ _)))⟩
    · obtain rfl : k = n := by omega
      go_wp2
      go_ret
      exact ⟨ret_bool (by rw [good_t (fun i hi => ha.out i (by have := hl.out; omega))]; simp; try omega), (by repeat (with_reducible first | exact Below.refl _ _ | refine bw_later ?_ _ | refine bw_alloc ?_ _ | refine bw_drew ?_ | refine bw_set ?_ (Nat.le_refl _) _ | refine bw_set ?_ ?_ _ | exact Nat.le_refl _ | exact later_size _ _ | refine Nat.le_trans ?_ (later_size _ _) | refine Nat.le_trans ?_ (size_alloc_le _ _) | refine Nat.le_trans ?_ (Nat.le_add_right _ _)))⟩
theorem spec_AreCabins_any (g off n c : Nat) (xs : List R5) (w : World) (hs : SR5 w g off n xs) (hn : n ≤ 1048576) : Gv Try.prog 18 #[.slice (some ⟨g, off, none⟩) n c] w (.bool (good isCabin xs && decide (n ≤ 12))) := by
  unfold Gv
  go_enter Try.func18, Try.ntmps18
  go_wp2_with (go_at_call 42; refine (l5Good_any g off n c xs _ hs hn).on ?_; intro x)
  go_ret
  exact ⟨rfl, (by repeat (with_reducible first | exact Below.refl _ _ | refine bw_later ?_ _ | refine bw_alloc ?_ _ | refine bw_drew ?_ | refine bw_set ?_ (Nat.le_refl _) _ | refine bw_set ?_ ?_ _ | exact Nat.le_refl _ | exact later_size _ _ | refine Nat.le_trans ?_ (later_size _ _) | refine Nat.le_trans ?_ (size_alloc_le _ _) | refine Nat.le_trans ?_ (Nat.le_add_right _ _)))⟩

theorem law_AreCabins (A0 : Option Addr) (n0 c0 : Nat) (xs0 : List R5) (w : World) (rd0 : AR5 w A0 n0 xs0 ∧ n0 ≤ 9223372036854775807) : Gv Try.prog 5 #[.slice A0 n0 c0] w (.bool true) := by
  obtain ⟨ha0, hm0⟩ := rd0
  unfold Gv
  by_cases k0 : 1048576 < n0
  · have z0 : szF n0 ((1048576 : Int)) = -1 := by unfold szF; rw [if_pos (by omega)]
    go_enter Try.func5, Try.ntmps5
    go_wp2_with fail
    refine Calls.mono (szCabin_any A0 n0 c0 ((1048576 : Int)) hm0 (by omega) (by omega) _) ?_
    rintro _ w1 ⟨rfl, b1⟩
    have hw := b1
    rw [z0]
    clear z0
    go_wp2_with fail
    go_ret
    exact ⟨rfl, hw⟩
  · have hn0 : n0 ≤ 1048576 := by omega
    have z0 : szF n0 ((1048576 : Int)) = (1048576 : Int) - (n0 : Int) := by unfold szF; rw [if_neg (by omega)]
    go_enter Try.func5, Try.ntmps5
    go_wp2_with fail
    refine Calls.mono (szCabin_any A0 n0 c0 ((1048576 : Int)) hm0 (by omega) (by omega) _) ?_
    rintro _ w1 ⟨rfl, b1⟩
    replace ha0 := ha0.below2 b1
    have hw := b1
    rw [z0]
    clear z0
    go_wp2_with fail
    refine Calls.mono (toCabinS_any A0 n0 c0 xs0 _ ha0 hn0) ?_
    rintro _ w2 ⟨g2, rfl, q2, hB2, b2⟩
    replace ha0 := ha0.below2 b2
    replace hw := bw_trans hw b2
    go_wp2_with fail
    refine Calls.mono (spec_AreCabins_any g2 0 n0 n0 xs0 _ hB2.reads hn0) ?_
    rintro _ w3 ⟨rfl, b3⟩
    replace ha0 := ha0.below2 b3
    replace hB2 := hB2.below2 b3
    replace hw := bw_trans hw b3
    go_wp2_with fail
    refine Calls.mono (toCabinS_any A0 n0 c0 xs0 _ ha0 hn0) ?_
    rintro _ w4 ⟨g4, rfl, q4, hB4, b4⟩
    replace ha0 := ha0.below2 b4
    replace hB2 := hB2.below2 b4
    replace hw := bw_trans hw b4
    go_wp2_with fail
    refine Calls.mono (impl_AreCabins_any g4 0 n0 n0 xs0 _ hB4.reads hn0) ?_
    rintro _ w5 ⟨rfl, b5⟩
    replace ha0 := ha0.below2 b5
    replace hB2 := hB2.below2 b5
    replace hB4 := hB4.below2 b5
    replace hw := bw_trans hw b5
    go_wp2_with fail
    refine Calls.mono (toCabinS_any A0 n0 c0 xs0 _ ha0 hn0) ?_
    rintro _ w6 ⟨g6, rfl, q6, hB6, b6⟩
    replace ha0 := ha0.below2 b6
    replace hB2 := hB2.below2 b6
    replace hB4 := hB4.below2 b6
    replace hw := bw_trans hw b6
    go_wp2_with fail
    refine Calls.mono (eqCabinS_any _ _ n0 n0 n0 n0 xs0 xs0 _ (AR5.of hB4.reads) (AR5.of hB6.reads) hn0 hn0) ?_
    rintro _ w7 ⟨rfl, b7⟩
    replace ha0 := ha0.below2 b7
    replace hB2 := hB2.below2 b7
    replace hB4 := hB4.below2 b7
    replace hB6 := hB6.below2 b7
    replace hw := bw_trans hw b7
    go_wp2_with fail
    go_ret
    exact ⟨rfl, hw⟩
end Go.Proofs.Ytnemamokjikdeaa
