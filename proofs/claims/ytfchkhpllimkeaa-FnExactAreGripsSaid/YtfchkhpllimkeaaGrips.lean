/- Lists of grips: the two functions that ask whether one is valid. -/
import Derived.Test.YtfchkhpllimkeaaGrip
import Derived.Test.YtfchkhpllimkeaaList
namespace Go.Proofs.Ytfchkhpllimkeaa
open Go.RowKit
theorem impl_AreGrips_any (g off n c : Nat) (xs : List R5) (w : World) (hs : SR5 w g off n xs) (hn : n ≤ 1048576) : Gv Try.prog 20 #[.slice (some ⟨g, off, none⟩) n c] w (.bool (good isGrip xs && decide (n ≤ 12))) := by
  unfold Gv
  have hl := Lib.hid hs.2.1
  go_enter Try.func20, Try.ntmps20
  go_wp2
  go_loopw [7] (fun i wr => ∃ k : Nat, Below w.heap.size w wr ∧ k ≤ n ∧ i = .int .i64 (k : Int) ∧ Hid (∀ j, j < k → goodAt isGrip xs j = true)) (fun i _ => n - (intOf i).toNat)
  case atStart => exact ⟨0, Below.refl _ _, by omega, rfl, fun j hj => absurd hj (by omega)⟩
  case round =>
    obtain ⟨k, hb, hk, rfl, ha⟩ := hrel
    obtain ⟨y, rfl⟩ := exists_later hb
    clear hb
    by_cases hlt : k < n
    · obtain ⟨r, hr0⟩ := hs.at_ hlt
      obtain ⟨c0, c1, c2, c3, c4⟩ := hs.2.2 k r hr0
      have hg := hs.1
      have hr := Lib.hid hr0
      clear hr0
      cases hp : isGrip r
      · cases k with
        | zero =>
          simp only [Nat.zero_mul, Nat.add_zero] at c0 c1 c2 c3 c4
          go_wp2_with (first | ((with_reducible refine wp_region_later (by kernel_rfl) (by kernel_rfl) ?_); (repeat (go_big_quiet_step ((go_at_call 10; exact (impl_IsGrip_any r _).quiet)))); refine wpQuiet_nil ?_; rintro _ ⟨xr, rfl⟩) | fail)
          go_ret
          exact ⟨ret_bool (by rw [good_f (by rw [hl.out]; exact hlt) (goodAt_no hr.out hp)]; rfl), (by repeat (with_reducible first | exact Below.refl _ _ | refine bw_later ?_ _ | refine bw_alloc ?_ _ | refine bw_drew ?_))⟩
        | succ j =>
          go_wp2_with (first | ((with_reducible refine wp_region_later (by kernel_rfl) (by kernel_rfl) ?_); (repeat (go_big_quiet_step ((go_at_call 10; exact (impl_IsGrip_any r _).quiet)))); refine wpQuiet_nil ?_; rintro _ ⟨xr, rfl⟩) | fail)
          go_ret
          exact ⟨ret_bool (by rw [good_f (by rw [hl.out]; exact hlt) (goodAt_no hr.out hp)]; rfl), (by repeat (with_reducible first | exact Below.refl _ _ | refine bw_later ?_ _ | refine bw_alloc ?_ _ | refine bw_drew ?_))⟩
      · cases k with
        | zero =>
          simp only [Nat.zero_mul, Nat.add_zero] at c0 c1 c2 c3 c4
          go_wp2_with (first | ((with_reducible refine wp_region_later (by kernel_rfl) (by kernel_rfl) ?_); (repeat (go_big_quiet_step ((go_at_call 10; exact (impl_IsGrip_any r _).quiet)))); refine wpQuiet_nil ?_; rintro _ ⟨xr, rfl⟩) | fail)
          go_roundw
          case rel => exact ⟨1, (by repeat (with_reducible first | exact Below.refl _ _ | refine bw_later ?_ _ | refine bw_alloc ?_ _ | refine bw_drew ?_)), by omega, by go_num, ahead_step ha.out (goodAt_0 hr.out hp)⟩
          case measure => simp [intOf]; omega
        | succ j =>
          obtain ⟨q, hq0⟩ := hs.at_ (k := j) (by omega)
          obtain ⟨d0, -, -, -, -⟩ := hs.2.2 j q hq0
          have hq := Lib.hid hq0
          clear hq0
          by_cases hcmp : q.a < r.a
          · have hcmp' : decide (r.a ≤ q.a) = false := by simp; omega
            go_wp2_with (first | ((with_reducible refine wp_region_later (by kernel_rfl) (by kernel_rfl) ?_); (repeat (go_big_quiet_step ((go_at_call 10; exact (impl_IsGrip_any r _).quiet)))); refine wpQuiet_nil ?_; rintro _ ⟨xr, rfl⟩) | fail)
            go_roundw
            case rel => exact ⟨j + 1 + 1, (by repeat (with_reducible first | exact Below.refl _ _ | refine bw_later ?_ _ | refine bw_alloc ?_ _ | refine bw_drew ?_)), by omega, by go_num, ahead_step ha.out (goodAt_lt hr.out hq.out hp hcmp)⟩
            case measure => simp [intOf]; omega
          · have hcmp' : decide (r.a ≤ q.a) = true := by simp; omega
            go_wp2_with (first | ((with_reducible refine wp_region_later (by kernel_rfl) (by kernel_rfl) ?_); (repeat (go_big_quiet_step ((go_at_call 10; exact (impl_IsGrip_any r _).quiet)))); refine wpQuiet_nil ?_; rintro _ ⟨xr, rfl⟩) | fail)
            go_ret
            exact ⟨ret_bool (by rw [good_f (by rw [hl.out]; exact hlt) (goodAt_ge hr.out hq.out hp (by omega))]; rfl), (by repeat (with_reducible first | exact Below.refl _ _ | refine bw_later ?_ _ | refine bw_alloc ?_ _ | refine bw_drew ?_))⟩
    · obtain rfl : k = n := by omega
      go_wp2
      go_ret
      exact ⟨ret_bool (by rw [good_t (fun i hi => ha.out i (by have := hl.out; omega))]; simp; try omega), (by repeat (with_reducible first | exact Below.refl _ _ | refine bw_later ?_ _ | refine bw_alloc ?_ _ | refine bw_drew ?_))⟩
theorem spec_l7Good_any (g off n c : Nat) (xs : List R5) (w : World) (hs : SR5 w g off n xs) (hn : n ≤ 1048576) : Gv Try.prog 31 #[.slice (some ⟨g, off, none⟩) n c] w (.bool (good isGrip xs && decide (n ≤ 12))) := by
  unfold Gv
  have hl := Lib.hid hs.2.1
  go_enter Try.func31, Try.ntmps31
  go_wp2
  go_loopw [3] (fun i wr => ∃ k : Nat, Below w.heap.size w wr ∧ k ≤ n ∧ i = .int .i64 (k : Int) ∧ Hid (∀ j, j < k → goodAt isGrip xs j = true)) (fun i _ => n - (intOf i).toNat)
  case atStart => exact ⟨0, Below.refl _ _, by omega, rfl, fun j hj => absurd hj (by omega)⟩
  case round =>
    obtain ⟨k, hb, hk, rfl, ha⟩ := hrel
    obtain ⟨y, rfl⟩ := exists_later hb
    clear hb
    by_cases hlt : k < n
    · obtain ⟨r, hr0⟩ := hs.at_ hlt
      obtain ⟨c0, c1, c2, c3, c4⟩ := hs.2.2 k r hr0
      have hg := hs.1
      have hr := Lib.hid hr0
      clear hr0
      cases hp : isGrip r
      · cases k with
        | zero =>
          simp only [Nat.zero_mul, Nat.add_zero] at c0 c1 c2 c3 c4
          go_wp2_with (first | ((with_reducible refine wp_region_later (by kernel_rfl) (by kernel_rfl) ?_); (repeat (go_big_quiet_step ((go_at_call 22; exact (l7One_any r _).quiet)))); refine wpQuiet_nil ?_; rintro _ ⟨xr, rfl⟩) | fail)
          go_ret
          exact ⟨ret_bool (by rw [good_f (by rw [hl.out]; exact hlt) (goodAt_no hr.out hp)]; rfl), (by repeat (with_reducible first | exact Below.refl _ _ | refine bw_later ?_ _ | refine bw_alloc ?_ _ | refine bw_drew ?_))⟩
        | succ j =>
          go_wp2_with (first | ((with_reducible refine wp_region_later (by kernel_rfl) (by kernel_rfl) ?_); (repeat (go_big_quiet_step ((go_at_call 22; exact (l7One_any r _).quiet)))); refine wpQuiet_nil ?_; rintro _ ⟨xr, rfl⟩) | fail)
          go_ret
          exact ⟨ret_bool (by rw [good_f (by rw [hl.out]; exact hlt) (goodAt_no hr.out hp)]; rfl), (by repeat (with_reducible first | exact Below.refl _ _ | refine bw_later ?_ _ | refine bw_alloc ?_ _ | refine bw_drew ?_))⟩
      · cases k with
        | zero =>
          simp only [Nat.zero_mul, Nat.add_zero] at c0 c1 c2 c3 c4
          go_wp2_with (first | ((with_reducible refine wp_region_later (by kernel_rfl) (by kernel_rfl) ?_); (repeat (go_big_quiet_step ((go_at_call 22; exact (l7One_any r _).quiet)))); refine wpQuiet_nil ?_; rintro _ ⟨xr, rfl⟩) | fail)
          go_roundw
          case rel => exact ⟨1, (by repeat (with_reducible first | exact Below.refl _ _ | refine bw_later ?_ _ | refine bw_alloc ?_ _ | refine bw_drew ?_)), by omega, by go_num, ahead_step ha.out (goodAt_0 hr.out hp)⟩
          case measure => simp [intOf]; omega
        | succ j =>
          obtain ⟨q, hq0⟩ := hs.at_ (k := j) (by omega)
          obtain ⟨d0, -, -, -, -⟩ := hs.2.2 j q hq0
          have hq := Lib.hid hq0
          clear hq0
          by_cases hcmp : q.a < r.a
          · have hcmp' : decide (r.a ≤ q.a) = false := by simp; omega
            go_wp2_with (first | ((with_reducible refine wp_region_later (by kernel_rfl) (by kernel_rfl) ?_); (repeat (go_big_quiet_step ((go_at_call 22; exact (l7One_any r _).quiet)))); refine wpQuiet_nil ?_; rintro _ ⟨xr, rfl⟩) | fail)
            go_roundw
            case rel => exact ⟨j + 1 + 1, (by repeat (with_reducible first | exact Below.refl _ _ | refine bw_later ?_ _ | refine bw_alloc ?_ _ | refine bw_drew ?_)), by omega, by go_num, ahead_step ha.out (goodAt_lt hr.out hq.out hp hcmp)⟩
            case measure => simp [intOf]; omega
          · have hcmp' : decide (r.a ≤ q.a) = true := by simp; omega
            go_wp2_with (first | ((with_reducible refine wp_region_later (by kernel_rfl) (by kernel_rfl) ?_); (repeat (go_big_quiet_step ((go_at_call 22; exact (l7One_any r _).quiet)))); refine wpQuiet_nil ?_; rintro _ ⟨xr, rfl⟩) | fail)
            go_ret
            exact ⟨ret_bool (by rw [good_f (by rw [hl.out]; exact hlt) (goodAt_ge hr.out hq.out hp (by omega))]; rfl), (by repeat (with_reducible first | exact Below.refl _ _ | refine bw_later ?_ _ | refine bw_alloc ?_ _ | refine bw_drew ?_))⟩
    · obtain rfl : k = n := by omega
      go_wp2
      go_ret
      exact ⟨ret_bool (by rw [good_t (fun i hi => ha.out i (by have := hl.out; omega))]; simp; try omega), (by repeat (with_reducible first | exact Below.refl _ _ | refine bw_later ?_ _ | refine bw_alloc ?_ _ | refine bw_drew ?_))⟩
end Go.Proofs.Ytfchkhpllimkeaa
