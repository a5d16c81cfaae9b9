/- How the rope presses on a support. -/
import Derived.Test.YtppgfgklnfpgdaaUps
namespace Go.Proofs.Ytppgfgklnfpgdaa
open Go.RowKit
def atAt (xs : List Sup) (i : Nat) : Int := (supAt xs i).at_
theorem atAt_of {xs : List Sup} {i : Nat} {r : Sup} (h : xs[i]? = some r) : atAt xs i = r.at_ := by simp [atAt, supAt_of h]
/-- The slope of a span in thousandths. -/
def slopeV (xs : List Sup) (k : Nat) : Int := ((hAt xs (k + 1) - hAt xs k) * 1000).tdiv (atAt xs (k + 1) - atAt xs k)
theorem tdiv_bd {x y B : Int} (hy : 1 ≤ y) (h1 : -B ≤ x) (h2 : x ≤ B) : -B ≤ x.tdiv y ∧ x.tdiv y ≤ B := by
  rcases Int.lt_or_le x 0 with h | h
  · have e : x.tdiv y = -((-x) / y) := by
      rw [← Int.tdiv_eq_ediv_of_nonneg (show 0 ≤ -x by omega), Int.neg_tdiv, Int.neg_neg]
    have := Go.IntWalk.tdiv_le (-x) y (by omega) hy
    omega
  · rw [Int.tdiv_eq_ediv_of_nonneg h]
    have := Go.IntWalk.tdiv_le x y h hy
    omega
theorem slope_bd {xs : List Sup} {n k : Nat} (hL : LineOk xs) (hn : xs.length = n) (hk : k + 1 < n) : -2000000 ≤ slopeV xs k ∧ slopeV xs k ≤ 2000000 := by
  have h1 := hAt_bd hL k
  have h2 := hAt_bd hL (k + 1)
  have hr : xs[k + 1]? = some (xs[k + 1]'(by omega)) := List.getElem?_eq_getElem _
  have hq : xs[k]? = some (xs[k]'(by omega)) := List.getElem?_eq_getElem _
  have := hL.up _ _ _ hq hr
  exact tdiv_bd (by rw [atAt_of hr, atAt_of hq]; omega) (by omega) (by omega)
def pressF (xs : List Sup) (x : R3) (s : Int) : Int × Bool := if upB x.c xs x && inB s 1 ((xs.length : Int) - 2) then ((tenAt xs x x.c s.toNat * (slopeV xs (s.toNat - 1) - slopeV xs s.toNat)).tdiv 1000, true) else (0, false)
theorem i_slope_any (B g off n c k : Nat) (xs : List Sup) (w : World) (hB : w.cell? ⟨B, 0, none⟩ = some (.slice (some ⟨g, off, none⟩) n c)) (hB2 : B < w.heap.size) (hs : SSup w g off n xs) (hn : n ≤ 1048576) (hL : LineOk xs) (hk : k + 1 < n) :
    Gv Try.prog 44 #[.int .i64 (k : Int), .pointer (some ⟨B, 0, none⟩)] w (.int .i64 (slopeV xs k)) := by
  unfold Gv
  obtain ⟨r, hr0⟩ := hs.at_ (k := k + 1) hk
  obtain ⟨q, hq0⟩ := hs.at_ (k := k) (by omega)
  obtain ⟨r1, r2, -⟩ := hs.2.2 (k + 1) r hr0
  obtain ⟨q1, q2, -⟩ := hs.2.2 k q hq0
  obtain ⟨⟨d1, d2⟩, d3, d4⟩ := hL.bd _ _ hr0
  obtain ⟨⟨d5, d6⟩, d7, d8⟩ := hL.bd _ _ hq0
  have hup := hL.up _ _ _ hq0 hr0
  have hfin := Lib.hid (show slopeV xs k = ((r.h - q.h) * 1000).tdiv (r.at_ - q.at_) by simp only [slopeV, hAt_of hr0, hAt_of hq0, atAt_of hr0, atAt_of hq0])
  have hg := hs.1
  have iw : IntKind.i64.wrap ((k : Int) + 1) = (k : Int) + 1 := Go.IntWalk.i64_in _ (by omega)
  have iw1 : IntKind.i64.wrap (r.at_ - q.at_) = r.at_ - q.at_ := Go.IntWalk.i64_in _ (by omega)
  have iw2 : IntKind.i64.wrap (r.h - q.h) = r.h - q.h := Go.IntWalk.i64_in _ (by omega)
  have i1 : (0 : Int) ≤ (k : Int) + 1 := by omega
  have i2 : (k : Int) + 1 < (n : Int) := by omega
  have i3 : (k : Int) < (n : Int) := by omega
  have i4 : k < n := by omega
  have hz : ¬ r.at_ - q.at_ = 0 := by omega
  have hz1 : (r.at_ - q.at_ == 0) = false := by simpa using hz
  clear hr0 hq0 hL
  have iw3 : IntKind.i64.wrap ((r.h - q.h) * 1000) = (r.h - q.h) * 1000 := Go.IntWalk.i64_in _ (by omega)
  have iw4 : IntKind.i64.wrap (((r.h - q.h) * 1000).tdiv (r.at_ - q.at_)) = ((r.h - q.h) * 1000).tdiv (r.at_ - q.at_) := Go.IntWalk.i64_quo' _ _ (by omega)
  go_enter Try.func44, Try.ntmps44
  go_wp2_with ((with_reducible refine wp_region_later (by kernel_rfl) (by kernel_rfl) ?_); (repeat (go_big_quiet_step (fail))); refine wpQuiet_nil ?_; rintro _ ⟨xr, rfl⟩)
  go_ret
  exact ⟨by rw [hfin.out]; rfl, (by repeat (with_reducible first | exact Below.refl _ _ | refine bw_later ?_ _ | refine bw_alloc ?_ _ | refine bw_drew ?_ | refine bw_set ?_ (Nat.le_refl _) _ | refine bw_set ?_ (later_size _ _) _ | refine bw_set ?_ (Nat.le_trans (later_size _ _) (Nat.le_add_right _ _)) _ | refine bw_set ?_ (Nat.le_trans (Nat.le_add_right _ 1) (later_size _ _)) _ | refine bw_set ?_ (Nat.le_trans (Nat.le_trans (Nat.le_add_right _ 1) (later_size _ _)) (Nat.le_add_right _ _)) _  | refine bw_set ?_ (Nat.le_add_right _ _) _))⟩
theorem l6Slope_any (g off n c k : Nat) (xs : List Sup) (w : World) (hs : SSup w g off n xs) (hn : n ≤ 1048576) (hL : LineOk xs) (hk : k + 1 < n) :
    Gv Try.prog 41 #[.slice (some ⟨g, off, none⟩) n c, .int .i64 (k : Int)] w (.int .i64 (slopeV xs k)) := by
  unfold Gv
  obtain ⟨r, hr0⟩ := hs.at_ (k := k + 1) hk
  obtain ⟨q, hq0⟩ := hs.at_ (k := k) (by omega)
  obtain ⟨r1, r2, -⟩ := hs.2.2 (k + 1) r hr0
  obtain ⟨q1, q2, -⟩ := hs.2.2 k q hq0
  obtain ⟨⟨d1, d2⟩, d3, d4⟩ := hL.bd _ _ hr0
  obtain ⟨⟨d5, d6⟩, d7, d8⟩ := hL.bd _ _ hq0
  have hup := hL.up _ _ _ hq0 hr0
  have hfin := Lib.hid (show slopeV xs k = ((r.h - q.h) * 1000).tdiv (r.at_ - q.at_) by simp only [slopeV, hAt_of hr0, hAt_of hq0, atAt_of hr0, atAt_of hq0])
  have hg := hs.1
  have iw : IntKind.i64.wrap ((k : Int) + 1) = (k : Int) + 1 := Go.IntWalk.i64_in _ (by omega)
  have iw1 : IntKind.i64.wrap (r.at_ - q.at_) = r.at_ - q.at_ := Go.IntWalk.i64_in _ (by omega)
  have iw2 : IntKind.i64.wrap (r.h - q.h) = r.h - q.h := Go.IntWalk.i64_in _ (by omega)
  have i1 : (0 : Int) ≤ (k : Int) + 1 := by omega
  have i2 : (k : Int) + 1 < (n : Int) := by omega
  have i3 : (k : Int) < (n : Int) := by omega
  have i4 : k < n := by omega
  have hz : ¬ r.at_ - q.at_ = 0 := by omega
  have hz1 : (r.at_ - q.at_ == 0) = false := by simpa using hz
  clear hr0 hq0 hL
  have iw3 : IntKind.i64.wrap (1000 * (r.h - q.h)) = 1000 * (r.h - q.h) := Go.IntWalk.i64_in _ (by omega)
  have iw4 : IntKind.i64.wrap ((1000 * (r.h - q.h)).tdiv (r.at_ - q.at_)) = (1000 * (r.h - q.h)).tdiv (r.at_ - q.at_) := Go.IntWalk.i64_quo' _ _ (by omega)
  go_enter Try.func41, Try.ntmps41
  go_wp2_with ((with_reducible refine wp_region_later (by kernel_rfl) (by kernel_rfl) ?_); (repeat (go_big_quiet_step (fail))); refine wpQuiet_nil ?_; rintro _ ⟨xr, rfl⟩)
  go_ret
  exact ⟨by rw [hfin.out, Int.mul_comm (r.h - q.h) 1000]; rfl, (by repeat (with_reducible first | exact Below.refl _ _ | refine bw_later ?_ _ | refine bw_alloc ?_ _ | refine bw_drew ?_ | refine bw_set ?_ (Nat.le_refl _) _ | refine bw_set ?_ (later_size _ _) _ | refine bw_set ?_ (Nat.le_trans (later_size _ _) (Nat.le_add_right _ _)) _ | refine bw_set ?_ (Nat.le_trans (Nat.le_add_right _ 1) (later_size _ _)) _ | refine bw_set ?_ (Nat.le_trans (Nat.le_trans (Nat.le_add_right _ 1) (later_size _ _)) (Nat.le_add_right _ _)) _  | refine bw_set ?_ (Nat.le_add_right _ _) _))⟩
set_option maxHeartbeats 1000000 in
theorem i_PressAt_any (g off n c : Nat) (xs : List Sup) (x : R3) (s : Int) (w : World) (hs : SSup w g off n xs) (hn : n ≤ 1048576) : Gv Try.prog 18 #[.slice (some ⟨g, off, none⟩) n c, x.v, .int .i64 s] w (.tuple #[.int .i64 ((pressF xs x s)).1, .bool ((pressF xs x s)).2]) := by
  unfold Gv
  have hmf : ∀ (fn : Fn) (first cap : Array Value) (w : World), (Instr.makeFunc fn first cap).run Try.prog w = .ok (.func fn first cap) w := fun _ _ _ _ => rfl
  have hle := Lib.hid hs.2.1
  cases h1 : upB x.c xs x
  · have hfin := Lib.hid (show pressF xs x s = (0, false) by simp [pressF, h1])
    unfold R3.v
    go_enter Try.func18, Try.ntmps18
    go_wp2_with (first | (go_at_call 43; refine Calls.mono (up_no (i_up_any g off n c xs x _ (by first | exact (hs.alloc _).alloc _ | exact ((hs.alloc _).alloc _).later _) hn) h1) ?_; rintro _ w1 ⟨⟨A1, d1, rfl⟩, b1⟩; obtain ⟨y1, rfl⟩ := exists_later (bw_trans (a := ((w.alloc (.cells #[.slice (some ⟨g, off, none⟩) n c] 32)).alloc (.cells #[.int .i64 x.a, .int .i64 x.b, .int .i64 x.c] 25))) (by repeat (with_reducible first | exact Below.refl _ _ | refine bw_later ?_ _ | refine bw_alloc ?_ _ | refine bw_drew ?_ | refine bw_set ?_ (Nat.le_refl _) _ | refine bw_set ?_ (later_size _ _) _ | refine bw_set ?_ (Nat.le_trans (later_size _ _) (Nat.le_add_right _ _)) _ | refine bw_set ?_ (Nat.le_trans (Nat.le_add_right _ 1) (later_size _ _)) _ | refine bw_set ?_ (Nat.le_trans (Nat.le_trans (Nat.le_add_right _ 1) (later_size _ _)) (Nat.le_add_right _ _)) _  | refine bw_set ?_ (Nat.le_add_right _ _) _)) b1); clear b1) | (go_at_call 39; refine (within_any _ _ _ _).on ?_; intro xq))
    all_goals (go_ret2; exact ⟨by rw [hfin.out]; rfl, (by repeat (with_reducible first | exact Below.refl _ _ | refine bw_later ?_ _ | refine bw_alloc ?_ _ | refine bw_drew ?_ | refine bw_set ?_ (Nat.le_refl _) _ | refine bw_set ?_ (later_size _ _) _ | refine bw_set ?_ (Nat.le_trans (later_size _ _) (Nat.le_add_right _ _)) _ | refine bw_set ?_ (Nat.le_trans (Nat.le_add_right _ 1) (later_size _ _)) _ | refine bw_set ?_ (Nat.le_trans (Nat.le_trans (Nat.le_add_right _ 1) (later_size _ _)) (Nat.le_add_right _ _)) _  | refine bw_set ?_ (Nat.le_add_right _ _) _))⟩)
  have h28 := (upB_t h1).1.len
  rw [hs.2.1] at h28
  have hpos : 0 < n := by omega
  cases h2 : inB s 1 ((n : Int) - 2)
  · have hfin := Lib.hid (show pressF xs x s = (0, false) by simp [pressF, h1, h2, hs.2.1])
    unfold R3.v
    go_enter Try.func18, Try.ntmps18
    go_wp2_with (first | (go_at_call 43; refine Calls.mono (up_yes (i_up_any g off n c xs x _ (by first | exact (hs.alloc _).alloc _ | exact ((hs.alloc _).alloc _).later _) hn) h1 hle.out hpos) ?_; rintro _ w1 ⟨⟨g1, d1, rfl, q1, z1, c1⟩, b1⟩; obtain ⟨y1, rfl⟩ := exists_later (bw_trans (a := ((w.alloc (.cells #[.slice (some ⟨g, off, none⟩) n c] 32)).alloc (.cells #[.int .i64 x.a, .int .i64 x.b, .int .i64 x.c] 25))) (by repeat (with_reducible first | exact Below.refl _ _ | refine bw_later ?_ _ | refine bw_alloc ?_ _ | refine bw_drew ?_ | refine bw_set ?_ (Nat.le_refl _) _ | refine bw_set ?_ (later_size _ _) _ | refine bw_set ?_ (Nat.le_trans (later_size _ _) (Nat.le_add_right _ _)) _ | refine bw_set ?_ (Nat.le_trans (Nat.le_add_right _ 1) (later_size _ _)) _ | refine bw_set ?_ (Nat.le_trans (Nat.le_trans (Nat.le_add_right _ 1) (later_size _ _)) (Nat.le_add_right _ _)) _  | refine bw_set ?_ (Nat.le_add_right _ _) _)) b1); have C1 := Lib.hid c1; clear b1 c1 q1) | (go_at_call 39; refine (within_any _ _ _ _).on ?_; intro xq))
    all_goals (go_ret2; exact ⟨by rw [hfin.out]; rfl, (by repeat (with_reducible first | exact Below.refl _ _ | refine bw_later ?_ _ | refine bw_alloc ?_ _ | refine bw_drew ?_ | refine bw_set ?_ (Nat.le_refl _) _ | refine bw_set ?_ (later_size _ _) _ | refine bw_set ?_ (Nat.le_trans (later_size _ _) (Nat.le_add_right _ _)) _ | refine bw_set ?_ (Nat.le_trans (Nat.le_add_right _ 1) (later_size _ _)) _ | refine bw_set ?_ (Nat.le_trans (Nat.le_trans (Nat.le_add_right _ 1) (later_size _ _)) (Nat.le_add_right _ _)) _  | refine bw_set ?_ (Nat.le_add_right _ _) _))⟩)
  obtain ⟨s0, s1⟩ := inB_t h2
  obtain ⟨j, rfl⟩ : ∃ j : Nat, s = (j : Int) + 1 := ⟨s.toNat - 1, by omega⟩
  have it : ((j : Int) + 1).toNat = j + 1 := by omega
  have hL := Lib.hid (upB_t h1).1
  have hfin := Lib.hid (show pressF xs x ((j : Int) + 1) = ((tenAt xs x x.c (j + 1) * (slopeV xs j - slopeV xs (j + 1))).tdiv 1000, true) by simp only [pressF, it, h1, h2, hs.2.1, Nat.add_sub_cancel]; rfl)
  have hj : j + 1 + 1 < n := by omega
  obtain ⟨-, -, ⟨x1, x2⟩⟩ := case_bd (upB_t h1).2.1
  obtain ⟨t1, t2⟩ := tenAt_bd (u := x.c) (i := j + 1) hL.out (upB_t h1).2.1 (by omega) (by omega) (by omega)
  obtain ⟨p1, p2⟩ := slope_bd (k := j) hL.out hle.out (by omega)
  obtain ⟨p3, p4⟩ := slope_bd (k := j + 1) hL.out hle.out hj
  have ht0 : 0 ≤ tenAt xs x x.c (j + 1) := by
    have h := h1
    simp only [upB, Bool.and_eq_true] at h
    have := List.all_eq_true.1 h.2.2 (j + 1) (List.mem_range.2 (by rw [hs.2.1]; omega))
    simpa using this
  obtain ⟨v1, v2⟩ := smul_bd (a := slopeV xs j - slopeV xs (j + 1)) (b := tenAt xs x x.c (j + 1)) (A := 4000000) (B := 3008000) (by omega) (by omega) ht0 t2
  rw [Int.mul_comm (slopeV xs j - slopeV xs (j + 1))] at v1 v2
  have iw : IntKind.i64.wrap ((j : Int) + 1 - 1) = (j : Int) := by rw [Go.IntWalk.i64_in _ (by omega)]; omega
  have iw1 : IntKind.i64.wrap (slopeV xs j - slopeV xs (j + 1)) = slopeV xs j - slopeV xs (j + 1) := Go.IntWalk.i64_in _ (by omega)
  have iw2 : IntKind.i64.wrap (tenAt xs x x.c (j + 1) * (slopeV xs j - slopeV xs (j + 1))) = tenAt xs x x.c (j + 1) * (slopeV xs j - slopeV xs (j + 1)) := Go.IntWalk.i64_in _ (by omega)
  have iw3 : IntKind.i64.wrap ((tenAt xs x x.c (j + 1) * (slopeV xs j - slopeV xs (j + 1))).tdiv 1000) = (tenAt xs x x.c (j + 1) * (slopeV xs j - slopeV xs (j + 1))).tdiv 1000 := Go.IntWalk.i64_quo' _ _ (by omega)
  have i4 : j + 1 < n := by omega
  have i5 : (j : Int) + 1 < (n : Int) := by omega
  have i6 : (0 : Int) ≤ (j : Int) + 1 := by omega
  unfold R3.v
  go_enter Try.func18, Try.ntmps18
  go_wp2_with (first | (go_at_call 43; refine Calls.mono (up_yes (i_up_any g off n c xs x _ (by first | exact (hs.alloc _).alloc _ | exact ((hs.alloc _).alloc _).later _) hn) h1 hle.out hpos) ?_; rintro _ w1 ⟨⟨g1, d1, rfl, q1, z1, c1⟩, b1⟩; have ck := c1 (j + 1) (by omega); obtain ⟨y1, rfl⟩ := exists_later (bw_trans (a := ((w.alloc (.cells #[.slice (some ⟨g, off, none⟩) n c] 32)).alloc (.cells #[.int .i64 x.a, .int .i64 x.b, .int .i64 x.c] 25))) (by repeat (with_reducible first | exact Below.refl _ _ | refine bw_later ?_ _ | refine bw_alloc ?_ _ | refine bw_drew ?_ | refine bw_set ?_ (Nat.le_refl _) _ | refine bw_set ?_ (later_size _ _) _ | refine bw_set ?_ (Nat.le_trans (later_size _ _) (Nat.le_add_right _ _)) _ | refine bw_set ?_ (Nat.le_trans (Nat.le_add_right _ 1) (later_size _ _)) _ | refine bw_set ?_ (Nat.le_trans (Nat.le_trans (Nat.le_add_right _ 1) (later_size _ _)) (Nat.le_add_right _ _)) _  | refine bw_set ?_ (Nat.le_add_right _ _) _)) b1); have C1 := Lib.hid c1; clear b1 c1 q1) | (go_at_call 39; refine (within_any _ _ _ _).on ?_; intro xq))
  go_wp2_with ((with_reducible refine wp_region_later (by kernel_rfl) (by kernel_rfl) ?_); (repeat (go_big_quiet_step ((go_at_call 44; exact (i_slope_any w.heap.size g off n c _ xs _ (by simp [go_sem]) (by simp [go_sem]) (by first | exact ((((hs.alloc _).alloc _).later _).later _).later _ | exact ((((hs.alloc _).alloc _).later _).later _)) hn hL.out (by omega)).quiet)))); refine wpQuiet_nil ?_; rintro _ ⟨xr, rfl⟩)
  go_ret2
  exact ⟨by rw [hfin.out]; rfl, (by repeat (with_reducible first | exact Below.refl _ _ | refine bw_later ?_ _ | refine bw_alloc ?_ _ | refine bw_drew ?_ | refine bw_set ?_ (Nat.le_refl _) _ | refine bw_set ?_ (later_size _ _) _ | refine bw_set ?_ (Nat.le_trans (later_size _ _) (Nat.le_add_right _ _)) _ | refine bw_set ?_ (Nat.le_trans (Nat.le_add_right _ 1) (later_size _ _)) _ | refine bw_set ?_ (Nat.le_trans (Nat.le_trans (Nat.le_add_right _ 1) (later_size _ _)) (Nat.le_add_right _ _)) _  | refine bw_set ?_ (Nat.le_add_right _ _) _))⟩
set_option maxHeartbeats 1000000 in
theorem s_PressAt_any (g off n c : Nat) (xs : List Sup) (x : R3) (s : Int) (w : World) (hs : SSup w g off n xs) (hn : n ≤ 1048576) : Gv Try.prog 16 #[.slice (some ⟨g, off, none⟩) n c, x.v, .int .i64 s] w (.tuple #[.int .i64 ((pressF xs x s)).1, .bool ((pressF xs x s)).2]) := by
  unfold Gv
  have hmf : ∀ (fn : Fn) (first cap : Array Value) (w : World), (Instr.makeFunc fn first cap).run Try.prog w = .ok (.func fn first cap) w := fun _ _ _ _ => rfl
  have hle := Lib.hid hs.2.1
  cases h1 : upB x.c xs x
  · have hfin := Lib.hid (show pressF xs x s = (0, false) by simp [pressF, h1])
    unfold R3.v
    go_enter Try.func16, Try.ntmps16
    go_wp2_with (first | (go_at_call 30; refine Calls.mono (up_no (s_up_any g off n c xs x _ (by first | exact hs | exact hs.later _ | exact hs.alloc _ | exact (hs.alloc _).later _ | exact (hs.later _).alloc _ | exact ((hs.later _).alloc _).later _ | exact ((hs.alloc _).later _).alloc _) hn) h1) ?_; rintro _ w1 ⟨⟨A1, d1, rfl⟩, b1⟩; obtain ⟨y1, rfl⟩ := exists_later (bw_trans (a := (w.alloc (.cells #[.int .i64 x.a, .int .i64 x.b, .int .i64 x.c] 25))) (by repeat (with_reducible first | exact Below.refl _ _ | refine bw_later ?_ _ | refine bw_alloc ?_ _ | refine bw_drew ?_ | refine bw_set ?_ (Nat.le_refl _) _ | refine bw_set ?_ (later_size _ _) _ | refine bw_set ?_ (Nat.le_trans (later_size _ _) (Nat.le_add_right _ _)) _ | refine bw_set ?_ (Nat.le_trans (Nat.le_add_right _ 1) (later_size _ _)) _ | refine bw_set ?_ (Nat.le_trans (Nat.le_trans (Nat.le_add_right _ 1) (later_size _ _)) (Nat.le_add_right _ _)) _  | refine bw_set ?_ (Nat.le_add_right _ _) _)) b1); clear b1) | (go_at_call 40; refine (in_any _ _ _ _).on ?_; intro xq))
    all_goals (go_ret2; exact ⟨by rw [hfin.out]; rfl, (by repeat (with_reducible first | exact Below.refl _ _ | refine bw_later ?_ _ | refine bw_alloc ?_ _ | refine bw_drew ?_ | refine bw_set ?_ (Nat.le_refl _) _ | refine bw_set ?_ (later_size _ _) _ | refine bw_set ?_ (Nat.le_trans (later_size _ _) (Nat.le_add_right _ _)) _ | refine bw_set ?_ (Nat.le_trans (Nat.le_add_right _ 1) (later_size _ _)) _ | refine bw_set ?_ (Nat.le_trans (Nat.le_trans (Nat.le_add_right _ 1) (later_size _ _)) (Nat.le_add_right _ _)) _  | refine bw_set ?_ (Nat.le_add_right _ _) _))⟩)
  have h28 := (upB_t h1).1.len
  rw [hs.2.1] at h28
  have hpos : 0 < n := by omega
  cases h2 : inB s 1 ((n : Int) - 2)
  · have hfin := Lib.hid (show pressF xs x s = (0, false) by simp [pressF, h1, h2, hs.2.1])
    unfold R3.v
    go_enter Try.func16, Try.ntmps16
    go_wp2_with (first | (go_at_call 30; refine Calls.mono (up_yes (s_up_any g off n c xs x _ (by first | exact hs | exact hs.later _ | exact hs.alloc _ | exact (hs.alloc _).later _ | exact (hs.later _).alloc _ | exact ((hs.later _).alloc _).later _ | exact ((hs.alloc _).later _).alloc _) hn) h1 hle.out hpos) ?_; rintro _ w1 ⟨⟨g1, d1, rfl, q1, z1, c1⟩, b1⟩; obtain ⟨y1, rfl⟩ := exists_later (bw_trans (a := (w.alloc (.cells #[.int .i64 x.a, .int .i64 x.b, .int .i64 x.c] 25))) (by repeat (with_reducible first | exact Below.refl _ _ | refine bw_later ?_ _ | refine bw_alloc ?_ _ | refine bw_drew ?_ | refine bw_set ?_ (Nat.le_refl _) _ | refine bw_set ?_ (later_size _ _) _ | refine bw_set ?_ (Nat.le_trans (later_size _ _) (Nat.le_add_right _ _)) _ | refine bw_set ?_ (Nat.le_trans (Nat.le_add_right _ 1) (later_size _ _)) _ | refine bw_set ?_ (Nat.le_trans (Nat.le_trans (Nat.le_add_right _ 1) (later_size _ _)) (Nat.le_add_right _ _)) _  | refine bw_set ?_ (Nat.le_add_right _ _) _)) b1); have C1 := Lib.hid c1; clear b1 c1 q1) | (go_at_call 40; refine (in_any _ _ _ _).on ?_; intro xq))
    all_goals (go_ret2; exact ⟨by rw [hfin.out]; rfl, (by repeat (with_reducible first | exact Below.refl _ _ | refine bw_later ?_ _ | refine bw_alloc ?_ _ | refine bw_drew ?_ | refine bw_set ?_ (Nat.le_refl _) _ | refine bw_set ?_ (later_size _ _) _ | refine bw_set ?_ (Nat.le_trans (later_size _ _) (Nat.le_add_right _ _)) _ | refine bw_set ?_ (Nat.le_trans (Nat.le_add_right _ 1) (later_size _ _)) _ | refine bw_set ?_ (Nat.le_trans (Nat.le_trans (Nat.le_add_right _ 1) (later_size _ _)) (Nat.le_add_right _ _)) _  | refine bw_set ?_ (Nat.le_add_right _ _) _))⟩)
  obtain ⟨s0, s1⟩ := inB_t h2
  obtain ⟨j, rfl⟩ : ∃ j : Nat, s = (j : Int) + 1 := ⟨s.toNat - 1, by omega⟩
  have it : ((j : Int) + 1).toNat = j + 1 := by omega
  have hL := Lib.hid (upB_t h1).1
  have hfin := Lib.hid (show pressF xs x ((j : Int) + 1) = ((tenAt xs x x.c (j + 1) * (slopeV xs j - slopeV xs (j + 1))).tdiv 1000, true) by simp only [pressF, it, h1, h2, hs.2.1, Nat.add_sub_cancel]; rfl)
  have hj : j + 1 + 1 < n := by omega
  obtain ⟨-, -, ⟨x1, x2⟩⟩ := case_bd (upB_t h1).2.1
  obtain ⟨t1, t2⟩ := tenAt_bd (u := x.c) (i := j + 1) hL.out (upB_t h1).2.1 (by omega) (by omega) (by omega)
  obtain ⟨p1, p2⟩ := slope_bd (k := j) hL.out hle.out (by omega)
  obtain ⟨p3, p4⟩ := slope_bd (k := j + 1) hL.out hle.out hj
  have ht0 : 0 ≤ tenAt xs x x.c (j + 1) := by
    have h := h1
    simp only [upB, Bool.and_eq_true] at h
    have := List.all_eq_true.1 h.2.2 (j + 1) (List.mem_range.2 (by rw [hs.2.1]; omega))
    simpa using this
  obtain ⟨v1, v2⟩ := smul_bd (a := slopeV xs j - slopeV xs (j + 1)) (b := tenAt xs x x.c (j + 1)) (A := 4000000) (B := 3008000) (by omega) (by omega) ht0 t2
  rw [Int.mul_comm (slopeV xs j - slopeV xs (j + 1))] at v1 v2
  have iw : IntKind.i64.wrap ((j : Int) + 1 - 1) = (j : Int) := by rw [Go.IntWalk.i64_in _ (by omega)]; omega
  have iw1 : IntKind.i64.wrap (slopeV xs j - slopeV xs (j + 1)) = slopeV xs j - slopeV xs (j + 1) := Go.IntWalk.i64_in _ (by omega)
  have iw2 : IntKind.i64.wrap (tenAt xs x x.c (j + 1) * (slopeV xs j - slopeV xs (j + 1))) = tenAt xs x x.c (j + 1) * (slopeV xs j - slopeV xs (j + 1)) := Go.IntWalk.i64_in _ (by omega)
  have iw3 : IntKind.i64.wrap ((tenAt xs x x.c (j + 1) * (slopeV xs j - slopeV xs (j + 1))).tdiv 1000) = (tenAt xs x x.c (j + 1) * (slopeV xs j - slopeV xs (j + 1))).tdiv 1000 := Go.IntWalk.i64_quo' _ _ (by omega)
  have i4 : j + 1 < n := by omega
  have i5 : (j : Int) + 1 < (n : Int) := by omega
  have i6 : (0 : Int) ≤ (j : Int) + 1 := by omega
  unfold R3.v
  go_enter Try.func16, Try.ntmps16
  go_wp2_with (first | (go_at_call 30; refine Calls.mono (up_yes (s_up_any g off n c xs x _ (by first | exact hs | exact hs.later _ | exact hs.alloc _ | exact (hs.alloc _).later _ | exact (hs.later _).alloc _ | exact ((hs.later _).alloc _).later _ | exact ((hs.alloc _).later _).alloc _) hn) h1 hle.out hpos) ?_; rintro _ w1 ⟨⟨g1, d1, rfl, q1, z1, c1⟩, b1⟩; have ck := c1 (j + 1) (by omega); obtain ⟨y1, rfl⟩ := exists_later (bw_trans (a := (w.alloc (.cells #[.int .i64 x.a, .int .i64 x.b, .int .i64 x.c] 25))) (by repeat (with_reducible first | exact Below.refl _ _ | refine bw_later ?_ _ | refine bw_alloc ?_ _ | refine bw_drew ?_ | refine bw_set ?_ (Nat.le_refl _) _ | refine bw_set ?_ (later_size _ _) _ | refine bw_set ?_ (Nat.le_trans (later_size _ _) (Nat.le_add_right _ _)) _ | refine bw_set ?_ (Nat.le_trans (Nat.le_add_right _ 1) (later_size _ _)) _ | refine bw_set ?_ (Nat.le_trans (Nat.le_trans (Nat.le_add_right _ 1) (later_size _ _)) (Nat.le_add_right _ _)) _  | refine bw_set ?_ (Nat.le_add_right _ _) _)) b1); have C1 := Lib.hid c1; clear b1 c1 q1) | (go_at_call 40; refine (in_any _ _ _ _).on ?_; intro xq))
  go_wp2_with ((with_reducible refine wp_region_later (by kernel_rfl) (by kernel_rfl) ?_); (repeat (go_big_quiet_step ((go_at_call 41; exact (l6Slope_any g off n c _ xs _ (by first | exact ((((hs.alloc _).later _).later _).later _) | exact (((hs.alloc _).later _).later _)) hn hL.out (by omega)).quiet)))); refine wpQuiet_nil ?_; rintro _ ⟨xr, rfl⟩)
  go_ret2
  exact ⟨by rw [hfin.out]; rfl, (by repeat (with_reducible first | exact Below.refl _ _ | refine bw_later ?_ _ | refine bw_alloc ?_ _ | refine bw_drew ?_ | refine bw_set ?_ (Nat.le_refl _) _ | refine bw_set ?_ (later_size _ _) _ | refine bw_set ?_ (Nat.le_trans (later_size _ _) (Nat.le_add_right _ _)) _ | refine bw_set ?_ (Nat.le_trans (Nat.le_add_right _ 1) (later_size _ _)) _ | refine bw_set ?_ (Nat.le_trans (Nat.le_trans (Nat.le_add_right _ 1) (later_size _ _)) (Nat.le_add_right _ _)) _  | refine bw_set ?_ (Nat.le_add_right _ _) _))⟩
theorem law_PressAt (A0 : Option Addr) (n0 c0 : Nat) (xs0 : List Sup) (r1 : R3) (a2 : Int) (w : World) (rd0 : ASup w A0 n0 xs0 ∧ n0 ≤ 9223372036854775807) (_ia2 : I64 a2) : Gv Try.prog 4 #[.slice A0 n0 c0, r1.v, .int .i64 a2] w (.bool true) := by
  obtain ⟨ha0, hm0⟩ := rd0
  replace ha0 := ha0.below2 (w' := (w.alloc (.cells #[.int .i64 r1.a, .int .i64 r1.b, .int .i64 r1.c] 23))) (bw_alloc (Below.refl _ _) _)
  unfold Gv
  unfold R3.v
  by_cases k0 : 1048576 < n0
  · have z0 : szF n0 ((1048576 : Int)) = -1 := by unfold szF; rw [if_pos (by omega)]
    go_enter Try.func4, Try.ntmps4
    go_wp2_with fail
    refine Calls.mono (szSupport_any A0 n0 c0 ((1048576 : Int)) hm0 (by omega) (by omega) _) ?_
    rintro _ w1 ⟨rfl, b1⟩
    have hw := b1
    rw [z0]
    clear z0
    go_wp2_with fail
    go_ret
    exact ⟨rfl, bw_trans (bw_alloc (Below.refl _ _) _) hw⟩
  · have hn0 : n0 ≤ 1048576 := by omega
    have z0 : szF n0 ((1048576 : Int)) = (1048576 : Int) - (n0 : Int) := by unfold szF; rw [if_neg (by omega)]
    go_enter Try.func4, Try.ntmps4
    go_wp2_with fail
    refine Calls.mono (szSupport_any A0 n0 c0 ((1048576 : Int)) hm0 (by omega) (by omega) _) ?_
    rintro _ w1 ⟨rfl, b1⟩
    replace ha0 := ha0.below2 b1
    have hw := b1
    rw [z0]
    clear z0
    go_wp2_with fail
    (refine wp_region_C (Below (w1).heap.size (w1)) (by kernel_rfl) ?_)
    generalize hgd2 : w1.drew = w2
    have b2 : Below w1.heap.size w1 w2 := by rw [← hgd2]; exact (Below.refl _ _).drew
    clear hgd2
    have f1_0 : w1.cell? ⟨w.heap.size, 0, none⟩ = some (.int .i64 r1.a) := (hw.cell (p := ⟨_, _, none⟩) (by simp)).trans (by simp [go_sem])
    have f1_1 : w1.cell? ⟨w.heap.size, 1, none⟩ = some (.int .i64 r1.b) := (hw.cell (p := ⟨_, _, none⟩) (by simp)).trans (by simp [go_sem])
    have f1_2 : w1.cell? ⟨w.heap.size, 2, none⟩ = some (.int .i64 r1.c) := (hw.cell (p := ⟨_, _, none⟩) (by simp)).trans (by simp [go_sem])
    have g1_ : w.heap.size < w1.heap.size := by have := hw.size; simp at this; omega
    have hreg := b2
    refine step_read (i := 0) (by kernel_rfl) (by kernel_rfl) rfl hreg rfl (fun K hK => ?_)
    apply Exists.intro
    refine ⟨fun x => ?_, ?_⟩
    · go_simp; (try rfl)
    go_simp; refine hK _ ?_; clear hK K
    refine step_read (i := 2) (by kernel_rfl) (by kernel_rfl) rfl hreg rfl (fun K hK => ?_)
    apply Exists.intro
    refine ⟨fun x => ?_, ?_⟩
    · go_simp; (try rfl)
    go_simp; refine hK _ ?_; clear hK K
    refine step_read (i := 4) (by kernel_rfl) (by kernel_rfl) rfl hreg rfl (fun K hK => ?_)
    apply Exists.intro
    refine ⟨fun x => ?_, ?_⟩
    · go_simp; (try rfl)
    go_simp; refine hK _ ?_; clear hK K
    clear f1_0 f1_1 f1_2 g1_
    replace ha0 := ha0.below2 b2
    replace hw := bw_trans hw b2
    refine step_one (i := 1) (by kernel_rfl) rfl hreg (fun K hK => ?_)
    go_wp2_with fail
    refine Calls.mono (toSupportS_any A0 n0 c0 xs0 _ ha0 hn0) ?_
    rintro _ w3 ⟨g3, rfl, q3, hB3, b3⟩
    replace ha0 := ha0.below2 b3
    replace hw := bw_trans hw b3
    replace hreg := bw_trans hreg b3
    (try go_wp2)
    (try refine hK _ _ ?_)
    (try clear hK K)
    refine step_one (i := 3) (by kernel_rfl) rfl hreg (fun K hK => ?_)
    go_wp2_with fail
    refine Calls.mono (toLoadCase_any r1 _) ?_
    rintro _ w4 ⟨rfl, b4⟩
    replace ha0 := ha0.below2 b4
    replace hB3 := hB3.below2 b4
    replace hw := bw_trans hw b4
    (try unfold R3.v)
    replace hreg := bw_trans hreg b4
    (try go_wp2)
    (try refine hK _ _ ?_)
    (try clear hK K)
    refine step_one (i := 5) (by kernel_rfl) rfl hreg (fun K hK => ?_)
    go_wp2_with fail
    refine Calls.mono (s_PressAt_any g3 0 n0 n0 xs0 r1 a2 _ hB3.reads hn0) ?_
    rintro _ w5 ⟨rfl, b5⟩
    replace ha0 := ha0.below2 b5
    replace hB3 := hB3.below2 b5
    replace hw := bw_trans hw b5
    replace hreg := bw_trans hreg b5
    (try go_wp2)
    (try refine hK _ _ ?_)
    (try clear hK K)
    refine step_read (i := 6) (by kernel_rfl) (by kernel_rfl) rfl hreg rfl (fun K hK => ?_)
    apply Exists.intro
    refine ⟨fun x => ?_, ?_⟩
    · go_simp; (try rfl)
    go_simp; refine hK _ ?_; clear hK K
    refine step_read (i := 7) (by kernel_rfl) (by kernel_rfl) rfl hreg rfl (fun K hK => ?_)
    apply Exists.intro
    refine ⟨fun x => ?_, ?_⟩
    · go_simp; (try rfl)
    go_simp; refine hK _ ?_; clear hK K
    refine step_read (i := 8) (by kernel_rfl) (by kernel_rfl) rfl hreg rfl (fun K hK => ?_)
    apply Exists.intro
    refine ⟨fun x => ?_, ?_⟩
    · go_simp; (try rfl)
    go_simp; refine hK _ ?_; clear hK K
    refine step_read (i := 9) (by kernel_rfl) (by kernel_rfl) rfl hreg rfl (fun K hK => ?_)
    apply Exists.intro
    refine ⟨fun x => ?_, ?_⟩
    · go_simp; (try rfl)
    go_simp; refine hK _ ?_; clear hK K
    refine step_read (i := 10) (by kernel_rfl) (by kernel_rfl) rfl hreg rfl (fun K hK => ?_)
    apply Exists.intro
    refine ⟨fun x => ?_, ?_⟩
    · go_simp; (try rfl)
    go_simp; refine hK _ ?_; clear hK K
    refine step_end (by kernel_rfl) hreg ?_
    clear hreg
    go_wp2_with fail
    refine Calls.mono (toSupportS_any A0 n0 c0 xs0 _ ha0 hn0) ?_
    rintro _ w6 ⟨g6, rfl, q6, hB6, b6⟩
    replace ha0 := ha0.below2 b6
    replace hB3 := hB3.below2 b6
    replace hw := bw_trans hw b6
    have e0 : w6.cell? ⟨w.heap.size, 0, none⟩ = some (.int .i64 r1.a) := (hw.cell (p := ⟨_, _, none⟩) (by simp)).trans (by simp [go_sem])
    have e1 : w6.cell? ⟨w.heap.size, 1, none⟩ = some (.int .i64 r1.b) := (hw.cell (p := ⟨_, _, none⟩) (by simp)).trans (by simp [go_sem])
    have e2 : w6.cell? ⟨w.heap.size, 2, none⟩ = some (.int .i64 r1.c) := (hw.cell (p := ⟨_, _, none⟩) (by simp)).trans (by simp [go_sem])
    go_wp2_with fail
    refine Calls.mono (toLoadCase_any r1 _) ?_
    rintro _ w7 ⟨rfl, b7⟩
    replace ha0 := ha0.below2 b7
    replace hB3 := hB3.below2 b7
    replace hB6 := hB6.below2 b7
    replace hw := bw_trans hw b7
    unfold R3.v
    clear e0 e1 e2
    go_wp2_with fail
    refine Calls.mono (i_PressAt_any g6 0 n0 n0 xs0 r1 a2 _ hB6.reads hn0) ?_
    rintro _ w8 ⟨rfl, b8⟩
    replace ha0 := ha0.below2 b8
    replace hB3 := hB3.below2 b8
    replace hB6 := hB6.below2 b8
    replace hw := bw_trans hw b8
    go_wp2_with fail
    refine Calls.mono (toSupportS_any A0 n0 c0 xs0 _ ha0 hn0) ?_
    rintro _ w9 ⟨g9, rfl, q9, hB9, b9⟩
    replace ha0 := ha0.below2 b9
    replace hB3 := hB3.below2 b9
    replace hB6 := hB6.below2 b9
    replace hw := bw_trans hw b9
    go_wp2_with fail
    refine Calls.mono (eqSupportS_any _ _ n0 n0 n0 n0 xs0 xs0 _ (ASup.of hB6.reads) (ASup.of hB9.reads) hn0 hn0) ?_
    rintro _ w10 ⟨rfl, b10⟩
    replace ha0 := ha0.below2 b10
    replace hB3 := hB3.below2 b10
    replace hB6 := hB6.below2 b10
    replace hB9 := hB9.below2 b10
    replace hw := bw_trans hw b10
    go_wp2_with fail
    go_ret
    exact ⟨rfl, bw_trans (bw_alloc (Below.refl _ _) _) hw⟩
end Go.Proofs.Ytppgfgklnfpgdaa
