/- The pull for a load on a slope; whether a grip holds; the steepest slope on which it holds. -/
import Derived.Test.YtfchkhpllimkeaaGrip
namespace Go.Proofs.Ytfchkhpllimkeaa
open Go.RowKit
def pull (l s : Int) : Int := (l * 981 * s + 99999) / 100000
theorem prod_bd {a b A B : Int} (h0 : 0 ≤ a) (h1 : a ≤ A) (h2 : 0 ≤ b) (h3 : b ≤ B) : 0 ≤ a * b ∧ a * b ≤ A * B :=
  ⟨Int.mul_nonneg h0 h2, Int.mul_le_mul h1 h3 h2 (by omega)⟩
theorem pull_bd {l s : Int} (h1 : 100 ≤ l) (h2 : l ≤ 4000) (h3 : 0 ≤ s) (h4 : s ≤ 100) : 0 ≤ pull l s ∧ pull l s ≤ 3924 := by
  have := prod_bd (a := l * 981) (b := s) (A := 3924000) (B := 100) (by omega) (by omega) h3 h4
  unfold pull
  omega
def pullF (l s : Int) : Int × Bool := if inB l 100 4000 && inB s 0 100 then (pull l s, true) else (0, false)
def holdsF (r : R5) (l s : Int) : Bool := decide (3 * pull l s ≤ r.b) && decide (r.c ≤ 40)
def holdF (r : R5) (l s : Int) : Bool × Bool := if isGrip r && (inB l 100 4000 && inB s 0 100) then (holdsF r l s, true) else (false, false)
theorem isPulled_any (l s : Int) (w : World) : Gv Try.prog 27 #[.int .i64 l, .int .i64 s] w (.bool (inB l 100 4000 && inB s 0 100)) := by
  unfold Gv
  go_enter Try.func27, Try.ntmps27
  go_wp2_with (go_at_call 23; (first | refine (within_any _ _ _ _).onL ?_ | refine (within_any _ _ _ _).on ?_); intro x)
  all_goals (go_ret; exact ⟨ret_bool (by simp [*]), (by repeat (first | exact Below.refl _ _ | refine bw_later ?_ _ | refine bw_alloc ?_ _ | refine bw_drew ?_))⟩)
theorem l7Load_any (n : Int) (w : World) : Gv Try.prog 24 #[.int .i64 n] w (.bool (inB n 100 4000)) := by
  unfold Gv
  go_enter Try.func24, Try.ntmps24
  go_wp2_with (go_at_call 33; (first | refine (in_any _ _ _ _).onL ?_ | refine (in_any _ _ _ _).on ?_); intro x)
  go_ret
  exact ⟨rfl, (by repeat (first | exact Below.refl _ _ | refine bw_later ?_ _ | refine bw_alloc ?_ _ | refine bw_drew ?_))⟩
theorem l7Slope_any (n : Int) (w : World) : Gv Try.prog 25 #[.int .i64 n] w (.bool (inB n 0 100)) := by
  unfold Gv
  go_enter Try.func25, Try.ntmps25
  go_wp2_with (go_at_call 33; (first | refine (in_any _ _ _ _).onL ?_ | refine (in_any _ _ _ _).on ?_); intro x)
  go_ret
  exact ⟨rfl, (by repeat (first | exact Below.refl _ _ | refine bw_later ?_ _ | refine bw_alloc ?_ _ | refine bw_drew ?_))⟩
theorem pullOf_any (l s : Int) (h1 : 100 ≤ l) (h2 : l ≤ 4000) (h3 : 0 ≤ s) (h4 : s ≤ 100) (w : World) : Gv Try.prog 28 #[.int .i64 l, .int .i64 s] w (.int .i64 (pull l s)) := by
  obtain ⟨k1, k2⟩ := prod_bd (a := l * 981) (b := s) (A := 3924000) (B := 100) (by omega) (by omega) h3 h4
  unfold Gv pull
  go_enter Try.func28, Try.ntmps28
  go_wp2
  go_ret
  exact ⟨rfl, (by repeat (first | exact Below.refl _ _ | refine bw_later ?_ _ | refine bw_alloc ?_ _ | refine bw_drew ?_))⟩
theorem l7Pull_any (l s : Int) (h1 : 100 ≤ l) (h2 : l ≤ 4000) (h3 : 0 ≤ s) (h4 : s ≤ 100) (w : World) : Gv Try.prog 26 #[.int .i64 l, .int .i64 s] w (.int .i64 (pull l s)) := by
  obtain ⟨k1, k2⟩ := prod_bd (a := l * 981) (b := s) (A := 3924000) (B := 100) (by omega) (by omega) h3 h4
  unfold Gv pull
  go_enter Try.func26, Try.ntmps26
  go_wp2
  go_ret
  exact ⟨rfl, (by repeat (first | exact Below.refl _ _ | refine bw_later ?_ _ | refine bw_alloc ?_ _ | refine bw_drew ?_))⟩
theorem Grip_holds_any (r : R5) (l s : Int) (h1 : 100 ≤ l) (h2 : l ≤ 4000) (h3 : 0 ≤ s) (h4 : s ≤ 100) (w : World) : Gv Try.prog 30 #[r.v, .int .i64 l, .int .i64 s] w (.bool (holdsF r l s)) := by
  obtain ⟨k1, k2⟩ := pull_bd h1 h2 h3 h4
  unfold Gv R5.v holdsF
  by_cases hd : 3 * pull l s ≤ r.b
  all_goals
    go_enter Try.func30, Try.ntmps30
    go_wp2_with (with_reducible refine wp_region_later (by kernel_rfl) (by kernel_rfl) ?_; (repeat (go_big_quiet_step ((go_at_call 28; exact (pullOf_any _ _ h1 h2 h3 h4 _).quiet)))); refine wpQuiet_nil ?_; rintro _ ⟨xr, rfl⟩)
    go_ret
    exact ⟨ret_bool (by first | (simp [hd]; done) | (simp; omega)), (by repeat (first | exact Below.refl _ _ | refine bw_later ?_ _ | refine bw_alloc ?_ _ | refine bw_drew ?_))⟩
theorem l7Holds_any (r : R5) (l s : Int) (h1 : 100 ≤ l) (h2 : l ≤ 4000) (h3 : 0 ≤ s) (h4 : s ≤ 100) (w : World) : Gv Try.prog 29 #[r.v, .int .i64 l, .int .i64 s] w (.bool (holdsF r l s)) := by
  obtain ⟨k1, k2⟩ := pull_bd h1 h2 h3 h4
  unfold Gv R5.v holdsF
  by_cases hd : 3 * pull l s ≤ r.b
  all_goals
    go_enter Try.func29, Try.ntmps29
    go_wp2_with (with_reducible refine wp_region_later (by kernel_rfl) (by kernel_rfl) ?_; (repeat (go_big_quiet_step ((go_at_call 26; exact (l7Pull_any _ _ h1 h2 h3 h4 _).quiet)))); refine wpQuiet_nil ?_; rintro _ ⟨xr, rfl⟩)
    go_ret
    exact ⟨ret_bool (by first | (simp [hd]; done) | (simp; omega)), (by repeat (first | exact Below.refl _ _ | refine bw_later ?_ _ | refine bw_alloc ?_ _ | refine bw_drew ?_))⟩
theorem i_PullOf_any (l s : Int) (w : World) : Gv Try.prog 12 #[.int .i64 l, .int .i64 s] w (.tuple #[.int .i64 (pullF l s).1, .bool (pullF l s).2]) := by
  unfold Gv
  by_cases g1 : inB l 100 4000 = true <;> by_cases g2 : inB s 0 100 = true
  all_goals
    go_enter Try.func12, Try.ntmps12
    go_wp2_with (first | (go_at_call 27; (first | refine (isPulled_any _ _ _).onL ?_ | refine (isPulled_any _ _ _).on ?_); intro x) | (go_at_call 28; (first | refine (pullOf_any _ _ (inB_t g1).1 (inB_t g1).2 (inB_t g2).1 (inB_t g2).2 _).onL ?_ | refine (pullOf_any _ _ (inB_t g1).1 (inB_t g1).2 (inB_t g2).1 (inB_t g2).2 _).on ?_); intro x))
    go_ret2
    exact ⟨by simp [pullF, g1, g2], (by repeat (first | exact Below.refl _ _ | refine bw_later ?_ _ | refine bw_alloc ?_ _ | refine bw_drew ?_))⟩
theorem s_PullOf_any (l s : Int) (w : World) : Gv Try.prog 11 #[.int .i64 l, .int .i64 s] w (.tuple #[.int .i64 (pullF l s).1, .bool (pullF l s).2]) := by
  unfold Gv
  by_cases g1 : inB l 100 4000 = true <;> by_cases g2 : inB s 0 100 = true
  all_goals
    go_enter Try.func11, Try.ntmps11
    go_wp2_with (first | (go_at_call 24; (first | refine (l7Load_any _ _).onL ?_ | refine (l7Load_any _ _).on ?_); intro x) | (go_at_call 25; (first | refine (l7Slope_any _ _).onL ?_ | refine (l7Slope_any _ _).on ?_); intro x) | (go_at_call 26; (first | refine (l7Pull_any _ _ (inB_t g1).1 (inB_t g1).2 (inB_t g2).1 (inB_t g2).2 _).onL ?_ | refine (l7Pull_any _ _ (inB_t g1).1 (inB_t g1).2 (inB_t g2).1 (inB_t g2).2 _).on ?_); intro x))
    go_ret2
    exact ⟨by simp [pullF, g1, g2], (by repeat (first | exact Below.refl _ _ | refine bw_later ?_ _ | refine bw_alloc ?_ _ | refine bw_drew ?_))⟩
theorem i_DoesHold_any (r : R5) (l s : Int) (w : World) : Gv Try.prog 14 #[r.v, .int .i64 l, .int .i64 s] w (.tuple #[.bool (holdF r l s).1, .bool (holdF r l s).2]) := by
  unfold Gv R5.v
  by_cases g0 : isGrip r = true <;> by_cases g1 : inB l 100 4000 = true <;> by_cases g2 : inB s 0 100 = true
  all_goals
    go_enter Try.func14, Try.ntmps14
    go_wp2_with (first | (go_at_call 10; (first | refine (impl_IsGrip_any r _).onL ?_ | refine (impl_IsGrip_any r _).on ?_); intro x; (try unfold R5.v)) | (go_at_call 27; (first | refine (isPulled_any _ _ _).onL ?_ | refine (isPulled_any _ _ _).on ?_); intro x) | (go_at_call 30; (first | refine (Grip_holds_any r _ _ (inB_t g1).1 (inB_t g1).2 (inB_t g2).1 (inB_t g2).2 _).onL ?_ | refine (Grip_holds_any r _ _ (inB_t g1).1 (inB_t g1).2 (inB_t g2).1 (inB_t g2).2 _).on ?_); intro x))
    go_ret2
    exact ⟨by simp [holdF, g0, g1, g2], (by repeat (first | exact Below.refl _ _ | refine bw_later ?_ _ | refine bw_alloc ?_ _ | refine bw_drew ?_))⟩
theorem s_DoesHold_any (r : R5) (l s : Int) (w : World) : Gv Try.prog 13 #[r.v, .int .i64 l, .int .i64 s] w (.tuple #[.bool (holdF r l s).1, .bool (holdF r l s).2]) := by
  unfold Gv R5.v
  by_cases g0 : isGrip r = true <;> by_cases g1 : inB l 100 4000 = true <;> by_cases g2 : inB s 0 100 = true
  all_goals
    go_enter Try.func13, Try.ntmps13
    go_wp2_with (first | (go_at_call 22; (first | refine (l7One_any r _).onL ?_ | refine (l7One_any r _).on ?_); intro x) | (go_at_call 24; (first | refine (l7Load_any _ _).onL ?_ | refine (l7Load_any _ _).on ?_); intro x) | (go_at_call 25; (first | refine (l7Slope_any _ _).onL ?_ | refine (l7Slope_any _ _).on ?_); intro x) | (go_at_call 29; (first | refine (l7Holds_any r _ _ (inB_t g1).1 (inB_t g1).2 (inB_t g2).1 (inB_t g2).2 _).onL ?_ | refine (l7Holds_any r _ _ (inB_t g1).1 (inB_t g1).2 (inB_t g2).1 (inB_t g2).2 _).on ?_); intro x))
    go_ret2
    exact ⟨by simp [holdF, g0, g1, g2], (by repeat (first | exact Below.refl _ _ | refine bw_later ?_ _ | refine bw_alloc ?_ _ | refine bw_drew ?_))⟩
def steep (r : R5) (l : Int) : Nat → Int × Bool
  | 0 => (0, false)
  | k + 1 => if holdsF r l k then ((k : Int), true) else steep r l k
def steepF (r : R5) (l : Int) : Int × Bool := if isGrip r && inB l 100 4000 then steep r l 101 else (0, false)
theorem i_SteepestHeld_any (r : R5) (l : Int) (w : World) : Gv Try.prog 16 #[r.v, .int .i64 l] w (.tuple #[.int .i64 (steepF r l).1, .bool (steepF r l).2]) := by
  unfold Gv
  have g9 : inB 0 0 100 = true := rfl
  by_cases g0 : isGrip r = true <;> by_cases g1 : inB l 100 4000 = true
  · have hfin : steepF r l = steep r l 101 := by simp [steepF, g0, g1]
    have hl := inB_t g1
    have Hfin := Lib.hid hfin
    clear hfin
    unfold R5.v
    go_enter Try.func16, Try.ntmps16
    go_wp2_with (first | (go_at_call 10; (first | refine (impl_IsGrip_any r _).onL ?_ | refine (impl_IsGrip_any r _).on ?_); intro x) | (go_at_call 27; (first | refine (isPulled_any _ _ _).onL ?_ | refine (isPulled_any _ _ _).on ?_); intro x))
    go_loopw [6] (fun i wr => ∃ (k : Nat) (y : Lat (w.alloc (.cells #[.int .i64 r.a, .int .i64 r.b, .int .i64 r.c, .int .i64 r.d, .int .i64 r.e] 25))), wr = later _ y ∧ k ≤ 101 ∧ i = .int .i64 ((k : Int) - 1) ∧ Hid (steep r l k = steep r l 101)) (fun i _ => (intOf i + 1).toNat)
    case atStart => exact ⟨101, _, rfl, by omega, rfl, rfl⟩
    case round =>
      obtain ⟨k, y, rfl, hk, rfl, hs⟩ := hrel
      cases k with
      | zero =>
        go_wp2
        go_ret2
        exact ⟨by rw [Hfin.out, ← hs.out]; rfl, (by repeat (first | exact Below.refl _ _ | refine bw_later ?_ _ | refine bw_alloc ?_ _ | refine bw_drew ?_))⟩
      | succ k =>
        have e1 : (((k + 1 : Nat) : Int) - 1) = (k : Int) := by omega
        rw [e1]
        clear e1
        have hk0 : (0 : Int) ≤ (k : Int) := by omega
        have hk1 : (k : Int) ≤ 100 := by omega
        cases hh : holdsF r l k
        · go_wp2_with (go_at_call 30; (first | refine (Grip_holds_any r l k hl.1 hl.2 hk0 hk1 _).onL ?_ | refine (Grip_holds_any r l k hl.1 hl.2 hk0 hk1 _).on ?_); intro x)
          go_roundw
          case rel => exact ⟨k, _, rfl, by omega, by go_num, by have h2 := hs.out; rw [show steep r l (k + 1) = steep r l k by simp [steep, hh]] at h2; exact h2⟩
          case measure => simp [intOf]
        · go_wp2_with (go_at_call 30; (first | refine (Grip_holds_any r l k hl.1 hl.2 hk0 hk1 _).onL ?_ | refine (Grip_holds_any r l k hl.1 hl.2 hk0 hk1 _).on ?_); intro x)
          go_ret2
          exact ⟨by rw [Hfin.out, ← hs.out]; simp [steep, hh], (by repeat (first | exact Below.refl _ _ | refine bw_later ?_ _ | refine bw_alloc ?_ _ | refine bw_drew ?_))⟩
  all_goals
    unfold R5.v
    go_enter Try.func16, Try.ntmps16
    go_wp2_with (first | (go_at_call 10; (first | refine (impl_IsGrip_any r _).onL ?_ | refine (impl_IsGrip_any r _).on ?_); intro x) | (go_at_call 27; (first | refine (isPulled_any _ _ _).onL ?_ | refine (isPulled_any _ _ _).on ?_); intro x))
    go_ret2
    exact ⟨by simp [steepF, g0, g1], (by repeat (first | exact Below.refl _ _ | refine bw_later ?_ _ | refine bw_alloc ?_ _ | refine bw_drew ?_))⟩
theorem s_SteepestHeld_any (r : R5) (l : Int) (w : World) : Gv Try.prog 15 #[r.v, .int .i64 l] w (.tuple #[.int .i64 (steepF r l).1, .bool (steepF r l).2]) := by
  unfold Gv
  have g9 : inB 0 0 100 = true := rfl
  by_cases g0 : isGrip r = true <;> by_cases g1 : inB l 100 4000 = true
  · have hfin : steepF r l = steep r l 101 := by simp [steepF, g0, g1]
    have hl := inB_t g1
    have Hfin := Lib.hid hfin
    clear hfin
    unfold R5.v
    go_enter Try.func15, Try.ntmps15
    go_wp2_with (first | (go_at_call 22; (first | refine (l7One_any r _).onL ?_ | refine (l7One_any r _).on ?_); intro x) | (go_at_call 24; (first | refine (l7Load_any _ _).onL ?_ | refine (l7Load_any _ _).on ?_); intro x))
    go_loopw [6] (fun i wr => ∃ (k : Nat) (y : Lat (w.alloc (.cells #[.int .i64 r.a, .int .i64 r.b, .int .i64 r.c, .int .i64 r.d, .int .i64 r.e] 25))), wr = later _ y ∧ k ≤ 101 ∧ i = .int .i64 ((k : Int) - 1) ∧ Hid (steep r l k = steep r l 101)) (fun i _ => (intOf i + 1).toNat)
    case atStart => exact ⟨101, _, rfl, by omega, rfl, rfl⟩
    case round =>
      obtain ⟨k, y, rfl, hk, rfl, hs⟩ := hrel
      cases k with
      | zero =>
        go_wp2
        go_ret2
        exact ⟨by rw [Hfin.out, ← hs.out]; rfl, (by repeat (first | exact Below.refl _ _ | refine bw_later ?_ _ | refine bw_alloc ?_ _ | refine bw_drew ?_))⟩
      | succ k =>
        have e1 : (((k + 1 : Nat) : Int) - 1) = (k : Int) := by omega
        rw [e1]
        clear e1
        have hk0 : (0 : Int) ≤ (k : Int) := by omega
        have hk1 : (k : Int) ≤ 100 := by omega
        cases hh : holdsF r l k
        · go_wp2_with (go_at_call 29; (first | refine (l7Holds_any r l k hl.1 hl.2 hk0 hk1 _).onL ?_ | refine (l7Holds_any r l k hl.1 hl.2 hk0 hk1 _).on ?_); intro x)
          go_roundw
          case rel => exact ⟨k, _, rfl, by omega, by go_num, by have h2 := hs.out; rw [show steep r l (k + 1) = steep r l k by simp [steep, hh]] at h2; exact h2⟩
          case measure => simp [intOf]
        · go_wp2_with (go_at_call 29; (first | refine (l7Holds_any r l k hl.1 hl.2 hk0 hk1 _).onL ?_ | refine (l7Holds_any r l k hl.1 hl.2 hk0 hk1 _).on ?_); intro x)
          go_ret2
          exact ⟨by rw [Hfin.out, ← hs.out]; simp [steep, hh], (by repeat (first | exact Below.refl _ _ | refine bw_later ?_ _ | refine bw_alloc ?_ _ | refine bw_drew ?_))⟩
  all_goals
    unfold R5.v
    go_enter Try.func15, Try.ntmps15
    go_wp2_with (first | (go_at_call 22; (first | refine (l7One_any r _).onL ?_ | refine (l7One_any r _).on ?_); intro x) | (go_at_call 24; (first | refine (l7Load_any _ _).onL ?_ | refine (l7Load_any _ _).on ?_); intro x))
    go_ret2
    exact ⟨by simp [steepF, g0, g1], (by repeat (first | exact Below.refl _ _ | refine bw_later ?_ _ | refine bw_alloc ?_ _ | refine bw_drew ?_))⟩
theorem law_PullOf (l s : Int) (_ : I64 l) (_ : I64 s) (w : World) : Gv Try.prog 4 #[.int .i64 l, .int .i64 s] w (.bool true) := by
  unfold Gv
  go_enter Try.func4, Try.ntmps4
  go_wp2_with (first | (go_at_call 11; (first | refine (s_PullOf_any l s _).onL ?_ | refine (s_PullOf_any l s _).on ?_); intro x) | (go_at_call 12; (first | refine (i_PullOf_any l s _).onL ?_ | refine (i_PullOf_any l s _).on ?_); intro x))
  all_goals (go_ret; exact ⟨rfl, (by repeat (first | exact Below.refl _ _ | refine bw_later ?_ _ | refine bw_alloc ?_ _ | refine bw_drew ?_))⟩)
theorem law_DoesHold (r : R5) (l s : Int) (_ : I64 l) (_ : I64 s) (w : World) : Gv Try.prog 5 #[r.v, .int .i64 l, .int .i64 s] w (.bool true) := by
  unfold Gv R5.v
  go_enter Try.func5, Try.ntmps5
  go_wp2_with (first | (go_at_call 9; (first | refine (toGrip_any r _).onL ?_ | refine (toGrip_any r _).on ?_); intro x; unfold R5.v) | (go_at_call 13; (first | refine (s_DoesHold_any r l s _).onL ?_ | refine (s_DoesHold_any r l s _).on ?_); intro x) | (go_at_call 14; (first | refine (i_DoesHold_any r l s _).onL ?_ | refine (i_DoesHold_any r l s _).on ?_); intro x))
  all_goals (go_ret; exact ⟨rfl, (by repeat (first | exact Below.refl _ _ | refine bw_later ?_ _ | refine bw_alloc ?_ _ | refine bw_drew ?_))⟩)
theorem law_SteepestHeld (r : R5) (l : Int) (_ : I64 l) (w : World) : Gv Try.prog 6 #[r.v, .int .i64 l] w (.bool true) := by
  unfold Gv R5.v
  go_enter Try.func6, Try.ntmps6
  go_wp2_with (first | (go_at_call 9; (first | refine (toGrip_any r _).onL ?_ | refine (toGrip_any r _).on ?_); intro x; unfold R5.v) | (go_at_call 15; (first | refine (s_SteepestHeld_any r l _).onL ?_ | refine (s_SteepestHeld_any r l _).on ?_); intro x) | (go_at_call 16; (first | refine (i_SteepestHeld_any r l _).onL ?_ | refine (i_SteepestHeld_any r l _).on ?_); intro x))
  all_goals (go_ret; exact ⟨rfl, (by repeat (first | exact Below.refl _ _ | refine bw_later ?_ _ | refine bw_alloc ?_ _ | refine bw_drew ?_))⟩)
end Go.Proofs.Ytfchkhpllimkeaa
