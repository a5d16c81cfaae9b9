/- The safety at a support. -/
import Derived.Test.YtppgfgklnfpgdaaUps
import Derived.Test.YtppgfgklnfpgdaaFrac
namespace Go.Proofs.Ytppgfgklnfpgdaa
open Go.RowKit
def safeF (xs : List Sup) (x : R3) (s b : Int) : Int × Int × Bool := if upB x.c xs x && (inB s 0 ((xs.length : Int) - 1) && (inB b 1 1000000 && !(tenAt xs x x.c s.toNat == 0))) then (redN b (tenAt xs x x.c s.toNat), redD b (tenAt xs x x.c s.toNat), true) else (0, 0, false)
theorem upB_ge {xs : List Sup} {x : R3} {u : Int} (h : upB u xs x = true) {i : Nat} (hi : i < xs.length) : 0 ≤ tenAt xs x u i := by
  simp only [upB, Bool.and_eq_true] at h
  have := List.all_eq_true.1 h.2.2 i (List.mem_range.2 hi)
  simpa using this
set_option maxHeartbeats 1000000 in
theorem i_SafetyAt_any (g off n c : Nat) (xs : List Sup) (x : R3) (s b : Int) (w : World) (hs : SSup w g off n xs) (hn : n ≤ 1048576) : Gv Try.prog 35 #[.slice (some ⟨g, off, none⟩) n c, x.v, .int .i64 s, .int .i64 b] w (.tuple #[.int .i64 ((safeF xs x s b)).1, .int .i64 (((safeF xs x s b)).2).1, .bool (((safeF xs x s b)).2).2]) := by
  unfold Gv
  have hle := Lib.hid hs.2.1
  cases h1 : upB x.c xs x
  · have hfin := Lib.hid (show safeF xs x s b = (0, 0, false) by simp [safeF, h1])
    unfold R3.v
    go_enter Try.func35, Try.ntmps35
    go_wp2_with (first | (go_at_call 43; refine Calls.mono (up_no (i_up_any g off _ c xs x _ (by first | exact hs | exact hs.later _ | exact hs.alloc _ | exact (hs.alloc _).later _ | exact (hs.later _).alloc _ | exact ((hs.later _).alloc _).later _ | exact ((hs.alloc _).later _).alloc _) hn) h1) ?_; rintro _ w1 ⟨⟨A1, d1, rfl⟩, b1⟩; obtain ⟨y1, rfl⟩ := exists_later (bw_trans (a := (w.alloc (.cells #[.int .i64 x.a, .int .i64 x.b, .int .i64 x.c] 25))) (by repeat (with_reducible first | exact Below.refl _ _ | refine bw_later ?_ _ | refine bw_alloc ?_ _ | refine bw_drew ?_ | refine bw_set ?_ (Nat.le_refl _) _ | refine bw_set ?_ (later_size _ _) _ | refine bw_set ?_ (Nat.le_trans (later_size _ _) (Nat.le_add_right _ _)) _ | refine bw_set ?_ (Nat.le_trans (Nat.le_add_right _ 1) (later_size _ _)) _ | refine bw_set ?_ (Nat.le_trans (Nat.le_trans (Nat.le_add_right _ 1) (later_size _ _)) (Nat.le_add_right _ _)) _  | refine bw_set ?_ (Nat.le_add_right _ _) _)) b1); clear b1) | (go_at_call 39; refine (within_any _ _ _ _).on ?_; intro xq) | (go_at_call 53; refine (lowest_any b (tenAt xs x x.c k) (by omega) (by omega) (by omega) (by omega) _).on ?_; intro xq))
    all_goals (go_ret3; exact ⟨by rw [hfin.out]; rfl, (by repeat (with_reducible first | exact Below.refl _ _ | refine bw_later ?_ _ | refine bw_alloc ?_ _ | refine bw_drew ?_ | refine bw_set ?_ (Nat.le_refl _) _ | refine bw_set ?_ (later_size _ _) _ | refine bw_set ?_ (Nat.le_trans (later_size _ _) (Nat.le_add_right _ _)) _ | refine bw_set ?_ (Nat.le_trans (Nat.le_add_right _ 1) (later_size _ _)) _ | refine bw_set ?_ (Nat.le_trans (Nat.le_trans (Nat.le_add_right _ 1) (later_size _ _)) (Nat.le_add_right _ _)) _  | refine bw_set ?_ (Nat.le_add_right _ _) _))⟩)
  have hL := (upB_t h1).1
  have h28 := hL.len
  rw [hs.2.1] at h28
  have hpos : 0 < n := by omega
  cases h2 : inB s 0 ((n : Int) - 1)
  · have hfin := Lib.hid (show safeF xs x s b = (0, 0, false) by simp [safeF, h1, h2, hs.2.1])
    unfold R3.v
    go_enter Try.func35, Try.ntmps35
    go_wp2_with (first | (go_at_call 43; refine Calls.mono (up_yes (i_up_any g off _ c xs x _ (by first | exact hs | exact hs.later _ | exact hs.alloc _ | exact (hs.alloc _).later _ | exact (hs.later _).alloc _ | exact ((hs.later _).alloc _).later _ | exact ((hs.alloc _).later _).alloc _) hn) h1 hle.out hpos) ?_; rintro _ w1 ⟨⟨g1, d1, rfl, q1, z1, c1⟩, b1⟩; obtain ⟨y1, rfl⟩ := exists_later (bw_trans (a := (w.alloc (.cells #[.int .i64 x.a, .int .i64 x.b, .int .i64 x.c] 25))) (by repeat (with_reducible first | exact Below.refl _ _ | refine bw_later ?_ _ | refine bw_alloc ?_ _ | refine bw_drew ?_ | refine bw_set ?_ (Nat.le_refl _) _ | refine bw_set ?_ (later_size _ _) _ | refine bw_set ?_ (Nat.le_trans (later_size _ _) (Nat.le_add_right _ _)) _ | refine bw_set ?_ (Nat.le_trans (Nat.le_add_right _ 1) (later_size _ _)) _ | refine bw_set ?_ (Nat.le_trans (Nat.le_trans (Nat.le_add_right _ 1) (later_size _ _)) (Nat.le_add_right _ _)) _  | refine bw_set ?_ (Nat.le_add_right _ _) _)) b1); have C1 := Lib.hid c1; clear b1 c1 q1) | (go_at_call 39; refine (within_any _ _ _ _).on ?_; intro xq) | (go_at_call 53; refine (lowest_any b (tenAt xs x x.c k) (by omega) (by omega) (by omega) (by omega) _).on ?_; intro xq))
    all_goals (go_ret3; exact ⟨by rw [hfin.out]; rfl, (by repeat (with_reducible first | exact Below.refl _ _ | refine bw_later ?_ _ | refine bw_alloc ?_ _ | refine bw_drew ?_ | refine bw_set ?_ (Nat.le_refl _) _ | refine bw_set ?_ (later_size _ _) _ | refine bw_set ?_ (Nat.le_trans (later_size _ _) (Nat.le_add_right _ _)) _ | refine bw_set ?_ (Nat.le_trans (Nat.le_add_right _ 1) (later_size _ _)) _ | refine bw_set ?_ (Nat.le_trans (Nat.le_trans (Nat.le_add_right _ 1) (later_size _ _)) (Nat.le_add_right _ _)) _  | refine bw_set ?_ (Nat.le_add_right _ _) _))⟩)
  obtain ⟨s0, s1⟩ := inB_t h2
  obtain ⟨k, rfl⟩ : ∃ k : Nat, s = (k : Int) := ⟨s.toNat, by omega⟩
  have hk : k < n := by omega
  have hki : (k : Int) < (n : Int) := by omega
  cases h3 : inB b 1 1000000
  · have hfin := Lib.hid (show safeF xs x (k : Int) b = (0, 0, false) by simp [safeF, h1, h2, h3, hs.2.1])
    unfold R3.v
    go_enter Try.func35, Try.ntmps35
    go_wp2_with (first | (go_at_call 43; refine Calls.mono (up_yes (i_up_any g off _ c xs x _ (by first | exact hs | exact hs.later _ | exact hs.alloc _ | exact (hs.alloc _).later _ | exact (hs.later _).alloc _ | exact ((hs.later _).alloc _).later _ | exact ((hs.alloc _).later _).alloc _) hn) h1 hle.out hpos) ?_; rintro _ w1 ⟨⟨g1, d1, rfl, q1, z1, c1⟩, b1⟩; obtain ⟨y1, rfl⟩ := exists_later (bw_trans (a := (w.alloc (.cells #[.int .i64 x.a, .int .i64 x.b, .int .i64 x.c] 25))) (by repeat (with_reducible first | exact Below.refl _ _ | refine bw_later ?_ _ | refine bw_alloc ?_ _ | refine bw_drew ?_ | refine bw_set ?_ (Nat.le_refl _) _ | refine bw_set ?_ (later_size _ _) _ | refine bw_set ?_ (Nat.le_trans (later_size _ _) (Nat.le_add_right _ _)) _ | refine bw_set ?_ (Nat.le_trans (Nat.le_add_right _ 1) (later_size _ _)) _ | refine bw_set ?_ (Nat.le_trans (Nat.le_trans (Nat.le_add_right _ 1) (later_size _ _)) (Nat.le_add_right _ _)) _  | refine bw_set ?_ (Nat.le_add_right _ _) _)) b1); have C1 := Lib.hid c1; clear b1 c1 q1) | (go_at_call 39; refine (within_any _ _ _ _).on ?_; intro xq) | (go_at_call 53; refine (lowest_any b (tenAt xs x x.c k) (by omega) (by omega) (by omega) (by omega) _).on ?_; intro xq))
    all_goals (go_ret3; exact ⟨by rw [hfin.out]; rfl, (by repeat (with_reducible first | exact Below.refl _ _ | refine bw_later ?_ _ | refine bw_alloc ?_ _ | refine bw_drew ?_ | refine bw_set ?_ (Nat.le_refl _) _ | refine bw_set ?_ (later_size _ _) _ | refine bw_set ?_ (Nat.le_trans (later_size _ _) (Nat.le_add_right _ _)) _ | refine bw_set ?_ (Nat.le_trans (Nat.le_add_right _ 1) (later_size _ _)) _ | refine bw_set ?_ (Nat.le_trans (Nat.le_trans (Nat.le_add_right _ 1) (later_size _ _)) (Nat.le_add_right _ _)) _  | refine bw_set ?_ (Nat.le_add_right _ _) _))⟩)
  have ht0 := upB_ge h1 (i := k) (by rw [hs.2.1]; exact hk)
  obtain ⟨-, -, ⟨x1, x2⟩⟩ := case_bd (upB_t h1).2.1
  obtain ⟨t1, t2⟩ := tenAt_bd (u := x.c) (i := k) hL (upB_t h1).2.1 (by omega) (by omega) (by omega)
  cases h4 : (tenAt xs x x.c k == 0)
  rotate_left
  · have hfin := Lib.hid (show safeF xs x (k : Int) b = (0, 0, false) by simp only [safeF, Int.toNat_natCast, h4]; simp)
    clear hL
    unfold R3.v
    go_enter Try.func35, Try.ntmps35
    go_wp2_with (first | (go_at_call 43; refine Calls.mono (up_yes (i_up_any g off _ c xs x _ (by first | exact hs | exact hs.later _ | exact hs.alloc _ | exact (hs.alloc _).later _ | exact (hs.later _).alloc _ | exact ((hs.later _).alloc _).later _ | exact ((hs.alloc _).later _).alloc _) hn) h1 hle.out hpos) ?_; rintro _ w1 ⟨⟨g1, d1, rfl, q1, z1, c1⟩, b1⟩; have ck := c1 k hk; obtain ⟨y1, rfl⟩ := exists_later (bw_trans (a := (w.alloc (.cells #[.int .i64 x.a, .int .i64 x.b, .int .i64 x.c] 25))) (by repeat (with_reducible first | exact Below.refl _ _ | refine bw_later ?_ _ | refine bw_alloc ?_ _ | refine bw_drew ?_ | refine bw_set ?_ (Nat.le_refl _) _ | refine bw_set ?_ (later_size _ _) _ | refine bw_set ?_ (Nat.le_trans (later_size _ _) (Nat.le_add_right _ _)) _ | refine bw_set ?_ (Nat.le_trans (Nat.le_add_right _ 1) (later_size _ _)) _ | refine bw_set ?_ (Nat.le_trans (Nat.le_trans (Nat.le_add_right _ 1) (later_size _ _)) (Nat.le_add_right _ _)) _  | refine bw_set ?_ (Nat.le_add_right _ _) _)) b1); have C1 := Lib.hid c1; clear b1 c1 q1) | (go_at_call 39; refine (within_any _ _ _ _).on ?_; intro xq) | (go_at_call 53; refine (lowest_any b (tenAt xs x x.c k) (by omega) (by omega) (by omega) (by omega) _).on ?_; intro xq))
    all_goals (go_ret3; exact ⟨by rw [hfin.out]; rfl, (by repeat (with_reducible first | exact Below.refl _ _ | refine bw_later ?_ _ | refine bw_alloc ?_ _ | refine bw_drew ?_ | refine bw_set ?_ (Nat.le_refl _) _ | refine bw_set ?_ (later_size _ _) _ | refine bw_set ?_ (Nat.le_trans (later_size _ _) (Nat.le_add_right _ _)) _ | refine bw_set ?_ (Nat.le_trans (Nat.le_add_right _ 1) (later_size _ _)) _ | refine bw_set ?_ (Nat.le_trans (Nat.le_trans (Nat.le_add_right _ 1) (later_size _ _)) (Nat.le_add_right _ _)) _  | refine bw_set ?_ (Nat.le_add_right _ _) _))⟩)
  have hfin := Lib.hid (show safeF xs x (k : Int) b = (redN b (tenAt xs x x.c k), redD b (tenAt xs x x.c k), true) by simp only [safeF, Int.toNat_natCast, h1, h2, h3, h4, hs.2.1]; rfl)
  have ht1 : 1 ≤ tenAt xs x x.c k := by
    have : ¬ tenAt xs x x.c k = 0 := by simpa using h4
    omega
  obtain ⟨b0, b1'⟩ := inB_t h3
  clear hL
  unfold R3.v
  go_enter Try.func35, Try.ntmps35
  go_wp2_with (first | (go_at_call 43; refine Calls.mono (up_yes (i_up_any g off _ c xs x _ (by first | exact hs | exact hs.later _ | exact hs.alloc _ | exact (hs.alloc _).later _ | exact (hs.later _).alloc _ | exact ((hs.later _).alloc _).later _ | exact ((hs.alloc _).later _).alloc _) hn) h1 hle.out hpos) ?_; rintro _ w1 ⟨⟨g1, d1, rfl, q1, z1, c1⟩, b1⟩; have ck := c1 k hk; obtain ⟨y1, rfl⟩ := exists_later (bw_trans (a := (w.alloc (.cells #[.int .i64 x.a, .int .i64 x.b, .int .i64 x.c] 25))) (by repeat (with_reducible first | exact Below.refl _ _ | refine bw_later ?_ _ | refine bw_alloc ?_ _ | refine bw_drew ?_ | refine bw_set ?_ (Nat.le_refl _) _ | refine bw_set ?_ (later_size _ _) _ | refine bw_set ?_ (Nat.le_trans (later_size _ _) (Nat.le_add_right _ _)) _ | refine bw_set ?_ (Nat.le_trans (Nat.le_add_right _ 1) (later_size _ _)) _ | refine bw_set ?_ (Nat.le_trans (Nat.le_trans (Nat.le_add_right _ 1) (later_size _ _)) (Nat.le_add_right _ _)) _  | refine bw_set ?_ (Nat.le_add_right _ _) _)) b1); have C1 := Lib.hid c1; clear b1 c1 q1) | (go_at_call 39; refine (within_any _ _ _ _).on ?_; intro xq) | (go_at_call 53; refine (lowest_any b (tenAt xs x x.c k) (by omega) (by omega) (by omega) (by omega) _).on ?_; intro xq))
  all_goals (try go_wp2_with ((with_reducible refine wp_region_later (by kernel_rfl) (by kernel_rfl) ?_); (repeat (go_big_quiet_step (fail))); refine wpQuiet_nil ?_; rintro _ ⟨xr, rfl⟩))
  all_goals (go_ret3; exact ⟨by rw [hfin.out]; rfl, (by repeat (with_reducible first | exact Below.refl _ _ | refine bw_later ?_ _ | refine bw_alloc ?_ _ | refine bw_drew ?_ | refine bw_set ?_ (Nat.le_refl _) _ | refine bw_set ?_ (later_size _ _) _ | refine bw_set ?_ (Nat.le_trans (later_size _ _) (Nat.le_add_right _ _)) _ | refine bw_set ?_ (Nat.le_trans (Nat.le_add_right _ 1) (later_size _ _)) _ | refine bw_set ?_ (Nat.le_trans (Nat.le_trans (Nat.le_add_right _ 1) (later_size _ _)) (Nat.le_add_right _ _)) _  | refine bw_set ?_ (Nat.le_add_right _ _) _))⟩)
set_option maxHeartbeats 1000000 in
theorem s_SafetyAt_any (g off n c : Nat) (xs : List Sup) (x : R3) (s b : Int) (w : World) (hs : SSup w g off n xs) (hn : n ≤ 1048576) : Gv Try.prog 34 #[.slice (some ⟨g, off, none⟩) n c, x.v, .int .i64 s, .int .i64 b] w (.tuple #[.int .i64 ((safeF xs x s b)).1, .int .i64 (((safeF xs x s b)).2).1, .bool (((safeF xs x s b)).2).2]) := by
  unfold Gv
  have hle := Lib.hid hs.2.1
  cases h1 : upB x.c xs x
  · have hfin := Lib.hid (show safeF xs x s b = (0, 0, false) by simp [safeF, h1])
    unfold R3.v
    go_enter Try.func34, Try.ntmps34
    go_wp2_with (first | (go_at_call 30; refine Calls.mono (up_no (s_up_any g off _ c xs x _ (by first | exact hs | exact hs.later _ | exact hs.alloc _ | exact (hs.alloc _).later _ | exact (hs.later _).alloc _ | exact ((hs.later _).alloc _).later _ | exact ((hs.alloc _).later _).alloc _) hn) h1) ?_; rintro _ w1 ⟨⟨A1, d1, rfl⟩, b1⟩; obtain ⟨y1, rfl⟩ := exists_later (bw_trans (a := (w.alloc (.cells #[.int .i64 x.a, .int .i64 x.b, .int .i64 x.c] 25))) (by repeat (with_reducible first | exact Below.refl _ _ | refine bw_later ?_ _ | refine bw_alloc ?_ _ | refine bw_drew ?_ | refine bw_set ?_ (Nat.le_refl _) _ | refine bw_set ?_ (later_size _ _) _ | refine bw_set ?_ (Nat.le_trans (later_size _ _) (Nat.le_add_right _ _)) _ | refine bw_set ?_ (Nat.le_trans (Nat.le_add_right _ 1) (later_size _ _)) _ | refine bw_set ?_ (Nat.le_trans (Nat.le_trans (Nat.le_add_right _ 1) (later_size _ _)) (Nat.le_add_right _ _)) _  | refine bw_set ?_ (Nat.le_add_right _ _) _)) b1); clear b1) | (go_at_call 40; refine (in_any _ _ _ _).on ?_; intro xq) | (go_at_call 52; refine (reduce_any b (tenAt xs x x.c k) (by omega) (by omega) (by omega) (by omega) _).on ?_; intro xq))
    all_goals (go_ret3; exact ⟨by rw [hfin.out]; rfl, (by repeat (with_reducible first | exact Below.refl _ _ | refine bw_later ?_ _ | refine bw_alloc ?_ _ | refine bw_drew ?_ | refine bw_set ?_ (Nat.le_refl _) _ | refine bw_set ?_ (later_size _ _) _ | refine bw_set ?_ (Nat.le_trans (later_size _ _) (Nat.le_add_right _ _)) _ | refine bw_set ?_ (Nat.le_trans (Nat.le_add_right _ 1) (later_size _ _)) _ | refine bw_set ?_ (Nat.le_trans (Nat.le_trans (Nat.le_add_right _ 1) (later_size _ _)) (Nat.le_add_right _ _)) _  | refine bw_set ?_ (Nat.le_add_right _ _) _))⟩)
  have hL := (upB_t h1).1
  have h28 := hL.len
  rw [hs.2.1] at h28
  have hpos : 0 < n := by omega
  cases h2 : inB s 0 ((n : Int) - 1)
  · have hfin := Lib.hid (show safeF xs x s b = (0, 0, false) by simp [safeF, h1, h2, hs.2.1])
    unfold R3.v
    go_enter Try.func34, Try.ntmps34
    go_wp2_with (first | (go_at_call 30; refine Calls.mono (up_yes (s_up_any g off _ c xs x _ (by first | exact hs | exact hs.later _ | exact hs.alloc _ | exact (hs.alloc _).later _ | exact (hs.later _).alloc _ | exact ((hs.later _).alloc _).later _ | exact ((hs.alloc _).later _).alloc _) hn) h1 hle.out hpos) ?_; rintro _ w1 ⟨⟨g1, d1, rfl, q1, z1, c1⟩, b1⟩; obtain ⟨y1, rfl⟩ := exists_later (bw_trans (a := (w.alloc (.cells #[.int .i64 x.a, .int .i64 x.b, .int .i64 x.c] 25))) (by repeat (with_reducible first | exact Below.refl _ _ | refine bw_later ?_ _ | refine bw_alloc ?_ _ | refine bw_drew ?_ | refine bw_set ?_ (Nat.le_refl _) _ | refine bw_set ?_ (later_size _ _) _ | refine bw_set ?_ (Nat.le_trans (later_size _ _) (Nat.le_add_right _ _)) _ | refine bw_set ?_ (Nat.le_trans (Nat.le_add_right _ 1) (later_size _ _)) _ | refine bw_set ?_ (Nat.le_trans (Nat.le_trans (Nat.le_add_right _ 1) (later_size _ _)) (Nat.le_add_right _ _)) _  | refine bw_set ?_ (Nat.le_add_right _ _) _)) b1); have C1 := Lib.hid c1; clear b1 c1 q1) | (go_at_call 40; refine (in_any _ _ _ _).on ?_; intro xq) | (go_at_call 52; refine (reduce_any b (tenAt xs x x.c k) (by omega) (by omega) (by omega) (by omega) _).on ?_; intro xq))
    all_goals (go_ret3; exact ⟨by rw [hfin.out]; rfl, (by repeat (with_reducible first | exact Below.refl _ _ | refine bw_later ?_ _ | refine bw_alloc ?_ _ | refine bw_drew ?_ | refine bw_set ?_ (Nat.le_refl _) _ | refine bw_set ?_ (later_size _ _) _ | refine bw_set ?_ (Nat.le_trans (later_size _ _) (Nat.le_add_right _ _)) _ | refine bw_set ?_ (Nat.le_trans (Nat.le_add_right _ 1) (later_size _ _)) _ | refine bw_set ?_ (Nat.le_trans (Nat.le_trans (Nat.le_add_right _ 1) (later_size _ _)) (Nat.le_add_right _ _)) _  | refine bw_set ?_ (Nat.le_add_right _ _) _))⟩)
  obtain ⟨s0, s1⟩ := inB_t h2
  obtain ⟨k, rfl⟩ : ∃ k : Nat, s = (k : Int) := ⟨s.toNat, by omega⟩
  have hk : k < n := by omega
  have hki : (k : Int) < (n : Int) := by omega
  cases h3 : inB b 1 1000000
  · have hfin := Lib.hid (show safeF xs x (k : Int) b = (0, 0, false) by simp [safeF, h1, h2, h3, hs.2.1])
    unfold R3.v
    go_enter Try.func34, Try.ntmps34
    go_wp2_with (first | (go_at_call 30; refine Calls.mono (up_yes (s_up_any g off _ c xs x _ (by first | exact hs | exact hs.later _ | exact hs.alloc _ | exact (hs.alloc _).later _ | exact (hs.later _).alloc _ | exact ((hs.later _).alloc _).later _ | exact ((hs.alloc _).later _).alloc _) hn) h1 hle.out hpos) ?_; rintro _ w1 ⟨⟨g1, d1, rfl, q1, z1, c1⟩, b1⟩; obtain ⟨y1, rfl⟩ := exists_later (bw_trans (a := (w.alloc (.cells #[.int .i64 x.a, .int .i64 x.b, .int .i64 x.c] 25))) (by repeat (with_reducible first | exact Below.refl _ _ | refine bw_later ?_ _ | refine bw_alloc ?_ _ | refine bw_drew ?_ | refine bw_set ?_ (Nat.le_refl _) _ | refine bw_set ?_ (later_size _ _) _ | refine bw_set ?_ (Nat.le_trans (later_size _ _) (Nat.le_add_right _ _)) _ | refine bw_set ?_ (Nat.le_trans (Nat.le_add_right _ 1) (later_size _ _)) _ | refine bw_set ?_ (Nat.le_trans (Nat.le_trans (Nat.le_add_right _ 1) (later_size _ _)) (Nat.le_add_right _ _)) _  | refine bw_set ?_ (Nat.le_add_right _ _) _)) b1); have C1 := Lib.hid c1; clear b1 c1 q1) | (go_at_call 40; refine (in_any _ _ _ _).on ?_; intro xq) | (go_at_call 52; refine (reduce_any b (tenAt xs x x.c k) (by omega) (by omega) (by omega) (by omega) _).on ?_; intro xq))
    all_goals (go_ret3; exact ⟨by rw [hfin.out]; rfl, (by repeat (with_reducible first | exact Below.refl _ _ | refine bw_later ?_ _ | refine bw_alloc ?_ _ | refine bw_drew ?_ | refine bw_set ?_ (Nat.le_refl _) _ | refine bw_set ?_ (later_size _ _) _ | refine bw_set ?_ (Nat.le_trans (later_size _ _) (Nat.le_add_right _ _)) _ | refine bw_set ?_ (Nat.le_trans (Nat.le_add_right _ 1) (later_size _ _)) _ | refine bw_set ?_ (Nat.le_trans (Nat.le_trans (Nat.le_add_right _ 1) (later_size _ _)) (Nat.le_add_right _ _)) _  | refine bw_set ?_ (Nat.le_add_right _ _) _))⟩)
  have ht0 := upB_ge h1 (i := k) (by rw [hs.2.1]; exact hk)
  obtain ⟨-, -, ⟨x1, x2⟩⟩ := case_bd (upB_t h1).2.1
  obtain ⟨t1, t2⟩ := tenAt_bd (u := x.c) (i := k) hL (upB_t h1).2.1 (by omega) (by omega) (by omega)
  cases h4 : (tenAt xs x x.c k == 0)
  rotate_left
  · have hfin := Lib.hid (show safeF xs x (k : Int) b = (0, 0, false) by simp only [safeF, Int.toNat_natCast, h4]; simp)
    clear hL
    unfold R3.v
    go_enter Try.func34, Try.ntmps34
    go_wp2_with (first | (go_at_call 30; refine Calls.mono (up_yes (s_up_any g off _ c xs x _ (by first | exact hs | exact hs.later _ | exact hs.alloc _ | exact (hs.alloc _).later _ | exact (hs.later _).alloc _ | exact ((hs.later _).alloc _).later _ | exact ((hs.alloc _).later _).alloc _) hn) h1 hle.out hpos) ?_; rintro _ w1 ⟨⟨g1, d1, rfl, q1, z1, c1⟩, b1⟩; have ck := c1 k hk; obtain ⟨y1, rfl⟩ := exists_later (bw_trans (a := (w.alloc (.cells #[.int .i64 x.a, .int .i64 x.b, .int .i64 x.c] 25))) (by repeat (with_reducible first | exact Below.refl _ _ | refine bw_later ?_ _ | refine bw_alloc ?_ _ | refine bw_drew ?_ | refine bw_set ?_ (Nat.le_refl _) _ | refine bw_set ?_ (later_size _ _) _ | refine bw_set ?_ (Nat.le_trans (later_size _ _) (Nat.le_add_right _ _)) _ | refine bw_set ?_ (Nat.le_trans (Nat.le_add_right _ 1) (later_size _ _)) _ | refine bw_set ?_ (Nat.le_trans (Nat.le_trans (Nat.le_add_right _ 1) (later_size _ _)) (Nat.le_add_right _ _)) _  | refine bw_set ?_ (Nat.le_add_right _ _) _)) b1); have C1 := Lib.hid c1; clear b1 c1 q1) | (go_at_call 40; refine (in_any _ _ _ _).on ?_; intro xq) | (go_at_call 52; refine (reduce_any b (tenAt xs x x.c k) (by omega) (by omega) (by omega) (by omega) _).on ?_; intro xq))
    all_goals (go_ret3; exact ⟨by rw [hfin.out]; rfl, (by repeat (with_reducible first | exact Below.refl _ _ | refine bw_later ?_ _ | refine bw_alloc ?_ _ | refine bw_drew ?_ | refine bw_set ?_ (Nat.le_refl _) _ | refine bw_set ?_ (later_size _ _) _ | refine bw_set ?_ (Nat.le_trans (later_size _ _) (Nat.le_add_right _ _)) _ | refine bw_set ?_ (Nat.le_trans (Nat.le_add_right _ 1) (later_size _ _)) _ | refine bw_set ?_ (Nat.le_trans (Nat.le_trans (Nat.le_add_right _ 1) (later_size _ _)) (Nat.le_add_right _ _)) _  | refine bw_set ?_ (Nat.le_add_right _ _) _))⟩)
  have hfin := Lib.hid (show safeF xs x (k : Int) b = (redN b (tenAt xs x x.c k), redD b (tenAt xs x x.c k), true) by simp only [safeF, Int.toNat_natCast, h1, h2, h3, h4, hs.2.1]; rfl)
  have ht1 : 1 ≤ tenAt xs x x.c k := by
    have : ¬ tenAt xs x x.c k = 0 := by simpa using h4
    omega
  obtain ⟨b0, b1'⟩ := inB_t h3
  clear hL
  unfold R3.v
  go_enter Try.func34, Try.ntmps34
  go_wp2_with (first | (go_at_call 30; refine Calls.mono (up_yes (s_up_any g off _ c xs x _ (by first | exact hs | exact hs.later _ | exact hs.alloc _ | exact (hs.alloc _).later _ | exact (hs.later _).alloc _ | exact ((hs.later _).alloc _).later _ | exact ((hs.alloc _).later _).alloc _) hn) h1 hle.out hpos) ?_; rintro _ w1 ⟨⟨g1, d1, rfl, q1, z1, c1⟩, b1⟩; have ck := c1 k hk; obtain ⟨y1, rfl⟩ := exists_later (bw_trans (a := (w.alloc (.cells #[.int .i64 x.a, .int .i64 x.b, .int .i64 x.c] 25))) (by repeat (with_reducible first | exact Below.refl _ _ | refine bw_later ?_ _ | refine bw_alloc ?_ _ | refine bw_drew ?_ | refine bw_set ?_ (Nat.le_refl _) _ | refine bw_set ?_ (later_size _ _) _ | refine bw_set ?_ (Nat.le_trans (later_size _ _) (Nat.le_add_right _ _)) _ | refine bw_set ?_ (Nat.le_trans (Nat.le_add_right _ 1) (later_size _ _)) _ | refine bw_set ?_ (Nat.le_trans (Nat.le_trans (Nat.le_add_right _ 1) (later_size _ _)) (Nat.le_add_right _ _)) _  | refine bw_set ?_ (Nat.le_add_right _ _) _)) b1); have C1 := Lib.hid c1; clear b1 c1 q1) | (go_at_call 40; refine (in_any _ _ _ _).on ?_; intro xq) | (go_at_call 52; refine (reduce_any b (tenAt xs x x.c k) (by omega) (by omega) (by omega) (by omega) _).on ?_; intro xq))
  all_goals (try go_wp2_with ((with_reducible refine wp_region_later (by kernel_rfl) (by kernel_rfl) ?_); (repeat (go_big_quiet_step (fail))); refine wpQuiet_nil ?_; rintro _ ⟨xr, rfl⟩))
  all_goals (go_ret3; exact ⟨by rw [hfin.out]; rfl, (by repeat (with_reducible first | exact Below.refl _ _ | refine bw_later ?_ _ | refine bw_alloc ?_ _ | refine bw_drew ?_ | refine bw_set ?_ (Nat.le_refl _) _ | refine bw_set ?_ (later_size _ _) _ | refine bw_set ?_ (Nat.le_trans (later_size _ _) (Nat.le_add_right _ _)) _ | refine bw_set ?_ (Nat.le_trans (Nat.le_add_right _ 1) (later_size _ _)) _ | refine bw_set ?_ (Nat.le_trans (Nat.le_trans (Nat.le_add_right _ 1) (later_size _ _)) (Nat.le_add_right _ _)) _  | refine bw_set ?_ (Nat.le_add_right _ _) _))⟩)
theorem law_SafetyAt (A0 : Option Addr) (n0 c0 : Nat) (xs0 : List Sup) (r1 : R3) (a2 : Int) (a3 : Int) (w : World) (rd0 : ASup w A0 n0 xs0 ∧ n0 ≤ 9223372036854775807) (_ia2 : I64 a2) (_ia3 : I64 a3) : Gv Try.prog 10 #[.slice A0 n0 c0, r1.v, .int .i64 a2, .int .i64 a3] w (.bool true) := by
  obtain ⟨ha0, hm0⟩ := rd0
  replace ha0 := ha0.below2 (w' := (w.alloc (.cells #[.int .i64 r1.a, .int .i64 r1.b, .int .i64 r1.c] 23))) (bw_alloc (Below.refl _ _) _)
  unfold Gv
  unfold R3.v
  by_cases k0 : 1048576 < n0
  · have z0 : szF n0 ((1048576 : Int)) = -1 := by unfold szF; rw [if_pos (by omega)]
    go_enter Try.func10, Try.ntmps10
    go_wp2_with fail
    refine Calls.mono (szSupport_any A0 n0 c0 ((1048576 : Int)) hm0 (by omega) (by omega) _) ?_
    rintro _ w1 ⟨rfl, b1⟩
    have hw := b1
    rw [z0]
    clear z0
    go_wp2_with fail
    go_ret
    exact ⟨rfl, bw_trans (bw_alloc (Below.refl _ _) _) hw⟩
  · have hn0 : n0 ≤ 1048576 := by omega
    have z0 : szF n0 ((1048576 : Int)) = (1048576 : Int) - (n0 : Int) := by unfold szF; rw [if_neg (by omega)]
    go_enter Try.func10, Try.ntmps10
    go_wp2_with fail
    refine Calls.mono (szSupport_any A0 n0 c0 ((1048576 : Int)) hm0 (by omega) (by omega) _) ?_
    rintro _ w1 ⟨rfl, b1⟩
    replace ha0 := ha0.below2 b1
    have hw := b1
    rw [z0]
    clear z0
    go_wp2_with fail
    (refine wp_region_C (Below (w1).heap.size (w1)) (by kernel_rfl) ?_)
    generalize hgd2 : w1.drew = w2
    have b2 : Below w1.heap.size w1 w2 := by rw [← hgd2]; exact (Below.refl _ _).drew
    clear hgd2
    have f1_0 : w1.cell? ⟨w.heap.size, 0, none⟩ = some (.int .i64 r1.a) := (hw.cell (p := ⟨_, _, none⟩) (by simp)).trans (by simp [go_sem])
    have f1_1 : w1.cell? ⟨w.heap.size, 1, none⟩ = some (.int .i64 r1.b) := (hw.cell (p := ⟨_, _, none⟩) (by simp)).trans (by simp [go_sem])
    have f1_2 : w1.cell? ⟨w.heap.size, 2, none⟩ = some (.int .i64 r1.c) := (hw.cell (p := ⟨_, _, none⟩) (by simp)).trans (by simp [go_sem])
    have g1_ : w.heap.size < w1.heap.size := by have := hw.size; simp at this; omega
    have hreg := b2
    refine step_read (i := 0) (by kernel_rfl) (by kernel_rfl) rfl hreg rfl (fun K hK => ?_)
    apply Exists.intro
    refine ⟨fun x => ?_, ?_⟩
    · go_simp; (try rfl)
    go_simp; refine hK _ ?_; clear hK K
    refine step_read (i := 2) (by kernel_rfl) (by kernel_rfl) rfl hreg rfl (fun K hK => ?_)
    apply Exists.intro
    refine ⟨fun x => ?_, ?_⟩
    · go_simp; (try rfl)
    go_simp; refine hK _ ?_; clear hK K
    refine step_read (i := 4) (by kernel_rfl) (by kernel_rfl) rfl hreg rfl (fun K hK => ?_)
    apply Exists.intro
    refine ⟨fun x => ?_, ?_⟩
    · go_simp; (try rfl)
    go_simp; refine hK _ ?_; clear hK K
    refine step_read (i := 5) (by kernel_rfl) (by kernel_rfl) rfl hreg rfl (fun K hK => ?_)
    apply Exists.intro
    refine ⟨fun x => ?_, ?_⟩
    · go_simp; (try rfl)
    go_simp; refine hK _ ?_; clear hK K
    clear f1_0 f1_1 f1_2 g1_
    replace ha0 := ha0.below2 b2
    replace hw := bw_trans hw b2
    refine step_one (i := 1) (by kernel_rfl) rfl hreg (fun K hK => ?_)
    go_wp2_with fail
    refine Calls.mono (toSupportS_any A0 n0 c0 xs0 _ ha0 hn0) ?_
    rintro _ w3 ⟨g3, rfl, q3, hB3, b3⟩
    replace ha0 := ha0.below2 b3
    replace hw := bw_trans hw b3
    replace hreg := bw_trans hreg b3
    (try go_wp2)
    (try refine hK _ _ ?_)
    (try clear hK K)
    refine step_one (i := 3) (by kernel_rfl) rfl hreg (fun K hK => ?_)
    go_wp2_with fail
    refine Calls.mono (toLoadCase_any r1 _) ?_
    rintro _ w4 ⟨rfl, b4⟩
    replace ha0 := ha0.below2 b4
    replace hB3 := hB3.below2 b4
    replace hw := bw_trans hw b4
    (try unfold R3.v)
    replace hreg := bw_trans hreg b4
    (try go_wp2)
    (try refine hK _ _ ?_)
    (try clear hK K)
    refine step_one (i := 6) (by kernel_rfl) rfl hreg (fun K hK => ?_)
    go_wp2_with fail
    refine Calls.mono (s_SafetyAt_any g3 0 n0 n0 xs0 r1 a2 a3 _ hB3.reads hn0) ?_
    rintro _ w5 ⟨rfl, b5⟩
    replace ha0 := ha0.below2 b5
    replace hB3 := hB3.below2 b5
    replace hw := bw_trans hw b5
    replace hreg := bw_trans hreg b5
    (try go_wp2)
    (try refine hK _ _ ?_)
    (try clear hK K)
    refine step_read (i := 7) (by kernel_rfl) (by kernel_rfl) rfl hreg rfl (fun K hK => ?_)
    apply Exists.intro
    refine ⟨fun x => ?_, ?_⟩
    · go_simp; (try rfl)
    go_simp; refine hK _ ?_; clear hK K
    refine step_read (i := 8) (by kernel_rfl) (by kernel_rfl) rfl hreg rfl (fun K hK => ?_)
    apply Exists.intro
    refine ⟨fun x => ?_, ?_⟩
    · go_simp; (try rfl)
    go_simp; refine hK _ ?_; clear hK K
    refine step_read (i := 9) (by kernel_rfl) (by kernel_rfl) rfl hreg rfl (fun K hK => ?_)
    apply Exists.intro
    refine ⟨fun x => ?_, ?_⟩
    · go_simp; (try rfl)
    go_simp; refine hK _ ?_; clear hK K
    refine step_read (i := 10) (by kernel_rfl) (by kernel_rfl) rfl hreg rfl (fun K hK => ?_)
    apply Exists.intro
    refine ⟨fun x => ?_, ?_⟩
    · go_simp; (try rfl)
    go_simp; refine hK _ ?_; clear hK K
    refine step_read (i := 11) (by kernel_rfl) (by kernel_rfl) rfl hreg rfl (fun K hK => ?_)
    apply Exists.intro
    refine ⟨fun x => ?_, ?_⟩
    · go_simp; (try rfl)
    go_simp; refine hK _ ?_; clear hK K
    refine step_read (i := 12) (by kernel_rfl) (by kernel_rfl) rfl hreg rfl (fun K hK => ?_)
    apply Exists.intro
    refine ⟨fun x => ?_, ?_⟩
    · go_simp; (try rfl)
    go_simp; refine hK _ ?_; clear hK K
    refine step_read (i := 13) (by kernel_rfl) (by kernel_rfl) rfl hreg rfl (fun K hK => ?_)
    apply Exists.intro
    refine ⟨fun x => ?_, ?_⟩
    · go_simp; (try rfl)
    go_simp; refine hK _ ?_; clear hK K
    refine step_end (by kernel_rfl) hreg ?_
    clear hreg
    go_wp2_with fail
    refine Calls.mono (toSupportS_any A0 n0 c0 xs0 _ ha0 hn0) ?_
    rintro _ w6 ⟨g6, rfl, q6, hB6, b6⟩
    replace ha0 := ha0.below2 b6
    replace hB3 := hB3.below2 b6
    replace hw := bw_trans hw b6
    have e0 : w6.cell? ⟨w.heap.size, 0, none⟩ = some (.int .i64 r1.a) := (hw.cell (p := ⟨_, _, none⟩) (by simp)).trans (by simp [go_sem])
    have e1 : w6.cell? ⟨w.heap.size, 1, none⟩ = some (.int .i64 r1.b) := (hw.cell (p := ⟨_, _, none⟩) (by simp)).trans (by simp [go_sem])
    have e2 : w6.cell? ⟨w.heap.size, 2, none⟩ = some (.int .i64 r1.c) := (hw.cell (p := ⟨_, _, none⟩) (by simp)).trans (by simp [go_sem])
    go_wp2_with fail
    refine Calls.mono (toLoadCase_any r1 _) ?_
    rintro _ w7 ⟨rfl, b7⟩
    replace ha0 := ha0.below2 b7
    replace hB3 := hB3.below2 b7
    replace hB6 := hB6.below2 b7
    replace hw := bw_trans hw b7
    unfold R3.v
    clear e0 e1 e2
    go_wp2_with fail
    refine Calls.mono (i_SafetyAt_any g6 0 n0 n0 xs0 r1 a2 a3 _ hB6.reads hn0) ?_
    rintro _ w8 ⟨rfl, b8⟩
    replace ha0 := ha0.below2 b8
    replace hB3 := hB3.below2 b8
    replace hB6 := hB6.below2 b8
    replace hw := bw_trans hw b8
    go_wp2_with fail
    refine Calls.mono (toSupportS_any A0 n0 c0 xs0 _ ha0 hn0) ?_
    rintro _ w9 ⟨g9, rfl, q9, hB9, b9⟩
    replace ha0 := ha0.below2 b9
    replace hB3 := hB3.below2 b9
    replace hB6 := hB6.below2 b9
    replace hw := bw_trans hw b9
    go_wp2_with fail
    refine Calls.mono (eqSupportS_any _ _ n0 n0 n0 n0 xs0 xs0 _ (ASup.of hB6.reads) (ASup.of hB9.reads) hn0 hn0) ?_
    rintro _ w10 ⟨rfl, b10⟩
    replace ha0 := ha0.below2 b10
    replace hB3 := hB3.below2 b10
    replace hB6 := hB6.below2 b10
    replace hB9 := hB9.below2 b10
    replace hw := bw_trans hw b10
    go_wp2_with fail
    go_ret
    exact ⟨rfl, bw_trans (bw_alloc (Below.refl _ _) _) hw⟩
end Go.Proofs.Ytppgfgklnfpgdaa
