/- How far a line goes up and down. -/
import Derived.Test.YtfhggmjmhfafcaaSpan
import Derived.Test.YtfhggmjmhfafcaaFrac
namespace Go.Proofs.Ytfhggmjmhfafcaa
open Go.RowKit
def hAt (xs : List Sup) (i : Nat) : Int := (supAt xs i).h
theorem hAt_of {xs : List Sup} {i : Nat} {r : Sup} (h : xs[i]? = some r) : hAt xs i = r.h := by simp [hAt, supAt_of h]
/-- The sum of the rises of the first k spans, and of the falls. -/
def climbU (xs : List Sup) : Nat → Int
  | 0 => 0
  | k + 1 => climbU xs k + (if hAt xs k ≤ hAt xs (k + 1) then hAt xs (k + 1) - hAt xs k else 0)
def climbD (xs : List Sup) : Nat → Int
  | 0 => 0
  | k + 1 => climbD xs k + (if hAt xs k ≤ hAt xs (k + 1) then 0 else hAt xs k - hAt xs (k + 1))
section
variable {xs : List Sup} {k : Nat} {q r : Sup}
theorem climb_up (hq : xs[k]? = some q) (hr : xs[k + 1]? = some r) (h : q.h ≤ r.h) : climbU xs (k + 1) = climbU xs k + (r.h - q.h) ∧ climbD xs (k + 1) = climbD xs k := by
  simp [climbU, climbD, hAt_of hq, hAt_of hr, h]
theorem climb_down (hq : xs[k]? = some q) (hr : xs[k + 1]? = some r) (h : ¬ q.h ≤ r.h) : climbU xs (k + 1) = climbU xs k ∧ climbD xs (k + 1) = climbD xs k + (q.h - r.h) := by
  simp [climbU, climbD, hAt_of hq, hAt_of hr, h]
theorem hAt_bd (h : LineOk xs) (i : Nat) : 0 ≤ hAt xs i ∧ hAt xs i ≤ 2000 := by
  unfold hAt supAt
  cases e : xs[i]? with
  | none => simp [Sup.zero]
  | some r => exact (h.bd i r e).2
theorem climb_bd (h : LineOk xs) (k : Nat) : (0 ≤ climbU xs k ∧ climbU xs k ≤ 2000 * (k : Int)) ∧ (0 ≤ climbD xs k ∧ climbD xs k ≤ 2000 * (k : Int)) := by
  induction k with
  | zero => simp [climbU, climbD]
  | succ k ih =>
    have h1 := hAt_bd h k
    have h2 := hAt_bd h (k + 1)
    simp only [climbU, climbD]
    split <;> omega
end
theorem vint {a b : Int} (h : a = b) : Value.int .i64 a = .int .i64 b := by rw [h]
def climbF (xs : List Sup) : Int × Int × Bool := if okLine xs then (climbU xs (xs.length - 1), climbD xs (xs.length - 1), true) else (0, 0, false)
theorem i_ClimbOf_any (g off n c : Nat) (xs : List Sup) (w : World) (hs : SSup w g off n xs) (hn : n ≤ 1048576) : Gv Try.prog 17 #[.slice (some ⟨g, off, none⟩) n c] w (.tuple #[.int .i64 ((climbF xs)).1, .int .i64 (((climbF xs)).2).1, .bool (((climbF xs)).2).2]) := by
  unfold Gv
  cases h0 : okLine xs
  · have hfin := Lib.hid (show climbF xs = (0, 0, false) by simp [climbF, h0])
    go_enter Try.func17, Try.ntmps17
    go_wp2_with (first | (go_at_call 14; (first | refine (impl_IsLine_any g off n c xs _ (by first | exact hs | exact hs.later _ | exact hs.alloc _ | exact (hs.alloc _).later _ | exact (hs.later _).alloc _ | exact ((hs.later _).alloc _).later _ | exact ((hs.alloc _).later _).alloc _ | exact (hs.alloc _).alloc _ | exact ((hs.alloc _).alloc _).later _ | exact (((hs.alloc _).later _).alloc _).later _) hn).onL ?_ | refine (impl_IsLine_any g off n c xs _ (by first | exact hs | exact hs.later _ | exact hs.alloc _ | exact (hs.alloc _).later _ | exact (hs.later _).alloc _ | exact ((hs.later _).alloc _).later _ | exact ((hs.alloc _).later _).alloc _ | exact (hs.alloc _).alloc _ | exact ((hs.alloc _).alloc _).later _ | exact (((hs.alloc _).later _).alloc _).later _) hn).on ?_); intro xq) | ((with_reducible refine wp_region_later (by kernel_rfl) (by kernel_rfl) ?_); (repeat (go_big_quiet_step (fail))); refine wpQuiet_nil ?_; rintro _ ⟨xr, rfl⟩))
    all_goals (go_ret3; exact ⟨by rw [hfin.out]; try rfl, (by repeat (with_reducible first | exact Below.refl _ _ | refine bw_later ?_ _ | refine bw_alloc ?_ _ | refine bw_drew ?_ | refine bw_set ?_ (Nat.le_refl _) _ | refine bw_set ?_ ?_ _ | exact Nat.le_refl _ | exact later_size _ _ | refine Nat.le_trans ?_ (later_size _ _) | refine Nat.le_trans ?_ (size_alloc_le _ _) | refine Nat.le_trans ?_ (Nat.le_add_right _ _)))⟩)
  have hfin := Lib.hid (show climbF xs = (climbU xs (n - 1), climbD xs (n - 1), true) by simp [climbF, h0, hs.2.1])
  have hl := Lib.hid hs.2.1
  have hg := hs.1
  have hL := Lib.hid (line_ok h0)
  have h28 := (line_ok h0).len
  rw [hs.2.1] at h28
  go_enter Try.func17, Try.ntmps17
  go_wp2_with (first | (go_at_call 14; (first | refine (impl_IsLine_any g off n c xs _ (by first | exact hs | exact hs.later _ | exact hs.alloc _ | exact (hs.alloc _).later _ | exact (hs.later _).alloc _ | exact ((hs.later _).alloc _).later _ | exact ((hs.alloc _).later _).alloc _ | exact (hs.alloc _).alloc _ | exact ((hs.alloc _).alloc _).later _ | exact (((hs.alloc _).later _).alloc _).later _) hn).onL ?_ | refine (impl_IsLine_any g off n c xs _ (by first | exact hs | exact hs.later _ | exact hs.alloc _ | exact (hs.alloc _).later _ | exact (hs.later _).alloc _ | exact ((hs.later _).alloc _).later _ | exact ((hs.alloc _).later _).alloc _ | exact (hs.alloc _).alloc _ | exact ((hs.alloc _).alloc _).later _ | exact (((hs.alloc _).later _).alloc _).later _) hn).on ?_); intro xq) | ((with_reducible refine wp_region_later (by kernel_rfl) (by kernel_rfl) ?_); (repeat (go_big_quiet_step (fail))); refine wpQuiet_nil ?_; rintro _ ⟨xr, rfl⟩))
  clear h0
  go_loopw [5, 6, 7] (fun u d i wr => ∃ k : Nat, Below w.heap.size w wr ∧ 1 ≤ k ∧ k ≤ n ∧ i = .int .i64 (k : Int) ∧ u = .int .i64 (climbU xs (k - 1)) ∧ d = .int .i64 (climbD xs (k - 1))) (fun _ _ i _ => n - (intOf i).toNat)
  case atStart => exact ⟨1, (by repeat (with_reducible first | exact Below.refl _ _ | refine bw_later ?_ _ | refine bw_alloc ?_ _ | refine bw_drew ?_ | refine bw_set ?_ (Nat.le_refl _) _ | refine bw_set ?_ ?_ _ | exact Nat.le_refl _ | exact later_size _ _ | refine Nat.le_trans ?_ (later_size _ _) | refine Nat.le_trans ?_ (size_alloc_le _ _) | refine Nat.le_trans ?_ (Nat.le_add_right _ _))), by omega, by omega, rfl, rfl, rfl⟩
  case round =>
    obtain ⟨k1, hb, hk1, hk, rfl, rfl, rfl⟩ := hrel
    obtain ⟨y, rfl⟩ := exists_later hb
    clear hb
    obtain ⟨k, rfl⟩ : ∃ k, k1 = k + 1 := ⟨k1 - 1, by omega⟩
    have hgy := lt_later _ y g hg
    simp only [Nat.add_sub_cancel]
    obtain ⟨⟨u1, u2⟩, ⟨d1, d2⟩⟩ := climb_bd hL.out k
    by_cases hlt : k + 1 < n
    · obtain ⟨r, hr0⟩ := hs.at_ (k := k + 1) hlt
      obtain ⟨q, hq0⟩ := hs.at_ (k := k) (by omega)
      obtain ⟨-, r1, -⟩ := hs.2.2 (k + 1) r hr0
      obtain ⟨-, q1, -⟩ := hs.2.2 k q hq0
      obtain ⟨-, b1, b2⟩ := hL.out.bd _ _ hr0
      obtain ⟨-, b3, b4⟩ := hL.out.bd _ _ hq0
      have hr := Lib.hid hr0
      have hq := Lib.hid hq0
      clear hr0 hq0
      by_cases hd : q.h ≤ r.h
      · have hc := Lib.hid (climb_up hq.out hr.out hd)
        have x1 : max (r.h - q.h) 0 = r.h - q.h := by omega
        have x2 : max (-(r.h - q.h)) 0 = 0 := by omega
        go_wp2_with (first | (go_at_call 14; (first | refine (impl_IsLine_any g off n c xs _ (by first | exact hs | exact hs.later _ | exact hs.alloc _ | exact (hs.alloc _).later _ | exact (hs.later _).alloc _ | exact ((hs.later _).alloc _).later _ | exact ((hs.alloc _).later _).alloc _ | exact (hs.alloc _).alloc _ | exact ((hs.alloc _).alloc _).later _ | exact (((hs.alloc _).later _).alloc _).later _) hn).onL ?_ | refine (impl_IsLine_any g off n c xs _ (by first | exact hs | exact hs.later _ | exact hs.alloc _ | exact (hs.alloc _).later _ | exact (hs.later _).alloc _ | exact ((hs.later _).alloc _).later _ | exact ((hs.alloc _).later _).alloc _ | exact (hs.alloc _).alloc _ | exact ((hs.alloc _).alloc _).later _ | exact (((hs.alloc _).later _).alloc _).later _) hn).on ?_); intro xq) | ((with_reducible refine wp_region_later (by kernel_rfl) (by kernel_rfl) ?_); (repeat (go_big_quiet_step (fail))); refine wpQuiet_nil ?_; rintro _ ⟨xr, rfl⟩))
        go_roundw
        case rel => exact ⟨k + 1 + 1, (by repeat (with_reducible first | exact Below.refl _ _ | refine bw_later ?_ _ | refine bw_alloc ?_ _ | refine bw_drew ?_ | refine bw_set ?_ (Nat.le_refl _) _ | refine bw_set ?_ ?_ _ | exact Nat.le_refl _ | exact later_size _ _ | refine Nat.le_trans ?_ (later_size _ _) | refine Nat.le_trans ?_ (size_alloc_le _ _) | refine Nat.le_trans ?_ (Nat.le_add_right _ _))), by omega, by omega, by go_num, vint (Eq.trans (b := climbU xs k + (r.h - q.h)) (by first | rfl | omega | (split <;> omega) | (simp only [x1, x2]; omega)) hc.out.1.symm), vint (Eq.trans (b := climbD xs k) (by first | rfl | omega | (split <;> omega) | (simp only [x1, x2]; omega)) hc.out.2.symm)⟩
        case measure => simp [intOf]; omega
      · have hc := Lib.hid (climb_down hq.out hr.out hd)
        have x1 : max (r.h - q.h) 0 = 0 := by omega
        have x2 : max (-(r.h - q.h)) 0 = q.h - r.h := by omega
        go_wp2_with (first | (go_at_call 14; (first | refine (impl_IsLine_any g off n c xs _ (by first | exact hs | exact hs.later _ | exact hs.alloc _ | exact (hs.alloc _).later _ | exact (hs.later _).alloc _ | exact ((hs.later _).alloc _).later _ | exact ((hs.alloc _).later _).alloc _ | exact (hs.alloc _).alloc _ | exact ((hs.alloc _).alloc _).later _ | exact (((hs.alloc _).later _).alloc _).later _) hn).onL ?_ | refine (impl_IsLine_any g off n c xs _ (by first | exact hs | exact hs.later _ | exact hs.alloc _ | exact (hs.alloc _).later _ | exact (hs.later _).alloc _ | exact ((hs.later _).alloc _).later _ | exact ((hs.alloc _).later _).alloc _ | exact (hs.alloc _).alloc _ | exact ((hs.alloc _).alloc _).later _ | exact (((hs.alloc _).later _).alloc _).later _) hn).on ?_); intro xq) | ((with_reducible refine wp_region_later (by kernel_rfl) (by kernel_rfl) ?_); (repeat (go_big_quiet_step (fail))); refine wpQuiet_nil ?_; rintro _ ⟨xr, rfl⟩))
        go_roundw
        case rel => exact ⟨k + 1 + 1, (by repeat (with_reducible first | exact Below.refl _ _ | refine bw_later ?_ _ | refine bw_alloc ?_ _ | refine bw_drew ?_ | refine bw_set ?_ (Nat.le_refl _) _ | refine bw_set ?_ ?_ _ | exact Nat.le_refl _ | exact later_size _ _ | refine Nat.le_trans ?_ (later_size _ _) | refine Nat.le_trans ?_ (size_alloc_le _ _) | refine Nat.le_trans ?_ (Nat.le_add_right _ _))), by omega, by omega, by go_num, vint (Eq.trans (b := climbU xs k) (by first | rfl | omega | (split <;> omega) | (simp only [x1, x2]; omega)) hc.out.1.symm), vint (Eq.trans (b := climbD xs k + (q.h - r.h)) (by first | rfl | omega | (split <;> omega) | (simp only [x1, x2]; omega)) hc.out.2.symm)⟩
        case measure => simp [intOf]; omega
    · obtain rfl : n = k + 1 := by omega
      go_wp2
      go_ret3
      exact ⟨by rw [hfin.out]; rfl, (by repeat (with_reducible first | exact Below.refl _ _ | refine bw_later ?_ _ | refine bw_alloc ?_ _ | refine bw_drew ?_ | refine bw_set ?_ (Nat.le_refl _) _ | refine bw_set ?_ ?_ _ | exact Nat.le_refl _ | exact later_size _ _ | refine Nat.le_trans ?_ (later_size _ _) | refine Nat.le_trans ?_ (size_alloc_le _ _) | refine Nat.le_trans ?_ (Nat.le_add_right _ _)))⟩
theorem s_ClimbOf_any (g off n c : Nat) (xs : List Sup) (w : World) (hs : SSup w g off n xs) (hn : n ≤ 1048576) : Gv Try.prog 16 #[.slice (some ⟨g, off, none⟩) n c] w (.tuple #[.int .i64 ((climbF xs)).1, .int .i64 (((climbF xs)).2).1, .bool (((climbF xs)).2).2]) := by
  unfold Gv
  cases h0 : okLine xs
  · have hfin := Lib.hid (show climbF xs = (0, 0, false) by simp [climbF, h0])
    go_enter Try.func16, Try.ntmps16
    go_wp2_with (first | (go_at_call 35; (first | refine (l2Line_any g off n c xs _ (by first | exact hs | exact hs.later _ | exact hs.alloc _ | exact (hs.alloc _).later _ | exact (hs.later _).alloc _ | exact ((hs.later _).alloc _).later _ | exact ((hs.alloc _).later _).alloc _ | exact (hs.alloc _).alloc _ | exact ((hs.alloc _).alloc _).later _ | exact (((hs.alloc _).later _).alloc _).later _) hn).onL ?_ | refine (l2Line_any g off n c xs _ (by first | exact hs | exact hs.later _ | exact hs.alloc _ | exact (hs.alloc _).later _ | exact (hs.later _).alloc _ | exact ((hs.later _).alloc _).later _ | exact ((hs.alloc _).later _).alloc _ | exact (hs.alloc _).alloc _ | exact ((hs.alloc _).alloc _).later _ | exact (((hs.alloc _).later _).alloc _).later _) hn).on ?_); intro xq) | (go_at_call 39; (first | refine (most_any _ _ _).onL ?_ | refine (most_any _ _ _).on ?_); intro xq) | ((with_reducible refine wp_region_later (by kernel_rfl) (by kernel_rfl) ?_); (repeat (go_big_quiet_step (fail))); refine wpQuiet_nil ?_; rintro _ ⟨xr, rfl⟩) | ((with_reducible refine wp_region_later (by kernel_rfl) (by kernel_rfl) ?_); (repeat (go_big_quiet_step ((go_at_call 39; exact (most_any _ _ _).quiet)))); refine wpQuiet_nil ?_; rintro _ ⟨xr, rfl⟩))
    all_goals (go_ret3; exact ⟨by rw [hfin.out]; try rfl, (by repeat (with_reducible first | exact Below.refl _ _ | refine bw_later ?_ _ | refine bw_alloc ?_ _ | refine bw_drew ?_ | refine bw_set ?_ (Nat.le_refl _) _ | refine bw_set ?_ ?_ _ | exact Nat.le_refl _ | exact later_size _ _ | refine Nat.le_trans ?_ (later_size _ _) | refine Nat.le_trans ?_ (size_alloc_le _ _) | refine Nat.le_trans ?_ (Nat.le_add_right _ _)))⟩)
  have hfin := Lib.hid (show climbF xs = (climbU xs (n - 1), climbD xs (n - 1), true) by simp [climbF, h0, hs.2.1])
  have hl := Lib.hid hs.2.1
  have hg := hs.1
  have hL := Lib.hid (line_ok h0)
  have h28 := (line_ok h0).len
  rw [hs.2.1] at h28
  go_enter Try.func16, Try.ntmps16
  go_wp2_with (first | (go_at_call 35; (first | refine (l2Line_any g off n c xs _ (by first | exact hs | exact hs.later _ | exact hs.alloc _ | exact (hs.alloc _).later _ | exact (hs.later _).alloc _ | exact ((hs.later _).alloc _).later _ | exact ((hs.alloc _).later _).alloc _ | exact (hs.alloc _).alloc _ | exact ((hs.alloc _).alloc _).later _ | exact (((hs.alloc _).later _).alloc _).later _) hn).onL ?_ | refine (l2Line_any g off n c xs _ (by first | exact hs | exact hs.later _ | exact hs.alloc _ | exact (hs.alloc _).later _ | exact (hs.later _).alloc _ | exact ((hs.later _).alloc _).later _ | exact ((hs.alloc _).later _).alloc _ | exact (hs.alloc _).alloc _ | exact ((hs.alloc _).alloc _).later _ | exact (((hs.alloc _).later _).alloc _).later _) hn).on ?_); intro xq) | (go_at_call 39; (first | refine (most_any _ _ _).onL ?_ | refine (most_any _ _ _).on ?_); intro xq) | ((with_reducible refine wp_region_later (by kernel_rfl) (by kernel_rfl) ?_); (repeat (go_big_quiet_step (fail))); refine wpQuiet_nil ?_; rintro _ ⟨xr, rfl⟩) | ((with_reducible refine wp_region_later (by kernel_rfl) (by kernel_rfl) ?_); (repeat (go_big_quiet_step ((go_at_call 39; exact (most_any _ _ _).quiet)))); refine wpQuiet_nil ?_; rintro _ ⟨xr, rfl⟩))
  clear h0
  go_loopw [5, 6, 7] (fun u d i wr => ∃ k : Nat, Below w.heap.size w wr ∧ 1 ≤ k ∧ k ≤ n ∧ i = .int .i64 (k : Int) ∧ u = .int .i64 (climbU xs (k - 1)) ∧ d = .int .i64 (climbD xs (k - 1))) (fun _ _ i _ => n - (intOf i).toNat)
  case atStart => exact ⟨1, (by repeat (with_reducible first | exact Below.refl _ _ | refine bw_later ?_ _ | refine bw_alloc ?_ _ | refine bw_drew ?_ | refine bw_set ?_ (Nat.le_refl _) _ | refine bw_set ?_ ?_ _ | exact Nat.le_refl _ | exact later_size _ _ | refine Nat.le_trans ?_ (later_size _ _) | refine Nat.le_trans ?_ (size_alloc_le _ _) | refine Nat.le_trans ?_ (Nat.le_add_right _ _))), by omega, by omega, rfl, rfl, rfl⟩
  case round =>
    obtain ⟨k1, hb, hk1, hk, rfl, rfl, rfl⟩ := hrel
    obtain ⟨y, rfl⟩ := exists_later hb
    clear hb
    obtain ⟨k, rfl⟩ : ∃ k, k1 = k + 1 := ⟨k1 - 1, by omega⟩
    have hgy := lt_later _ y g hg
    simp only [Nat.add_sub_cancel]
    obtain ⟨⟨u1, u2⟩, ⟨d1, d2⟩⟩ := climb_bd hL.out k
    by_cases hlt : k + 1 < n
    · obtain ⟨r, hr0⟩ := hs.at_ (k := k + 1) hlt
      obtain ⟨q, hq0⟩ := hs.at_ (k := k) (by omega)
      obtain ⟨-, r1, -⟩ := hs.2.2 (k + 1) r hr0
      obtain ⟨-, q1, -⟩ := hs.2.2 k q hq0
      obtain ⟨-, b1, b2⟩ := hL.out.bd _ _ hr0
      obtain ⟨-, b3, b4⟩ := hL.out.bd _ _ hq0
      have hr := Lib.hid hr0
      have hq := Lib.hid hq0
      clear hr0 hq0
      by_cases hd : q.h ≤ r.h
      · have hc := Lib.hid (climb_up hq.out hr.out hd)
        have x1 : most 0 (r.h - q.h) = r.h - q.h := by unfold most; split <;> omega
        have x2 : most 0 (-(r.h - q.h)) = 0 := by unfold most; split <;> omega
        go_wp2_with (first | (go_at_call 35; (first | refine (l2Line_any g off n c xs _ (by first | exact hs | exact hs.later _ | exact hs.alloc _ | exact (hs.alloc _).later _ | exact (hs.later _).alloc _ | exact ((hs.later _).alloc _).later _ | exact ((hs.alloc _).later _).alloc _ | exact (hs.alloc _).alloc _ | exact ((hs.alloc _).alloc _).later _ | exact (((hs.alloc _).later _).alloc _).later _) hn).onL ?_ | refine (l2Line_any g off n c xs _ (by first | exact hs | exact hs.later _ | exact hs.alloc _ | exact (hs.alloc _).later _ | exact (hs.later _).alloc _ | exact ((hs.later _).alloc _).later _ | exact ((hs.alloc _).later _).alloc _ | exact (hs.alloc _).alloc _ | exact ((hs.alloc _).alloc _).later _ | exact (((hs.alloc _).later _).alloc _).later _) hn).on ?_); intro xq) | (go_at_call 39; (first | refine (most_any _ _ _).onL ?_ | refine (most_any _ _ _).on ?_); intro xq) | ((with_reducible refine wp_region_later (by kernel_rfl) (by kernel_rfl) ?_); (repeat (go_big_quiet_step (fail))); refine wpQuiet_nil ?_; rintro _ ⟨xr, rfl⟩) | ((with_reducible refine wp_region_later (by kernel_rfl) (by kernel_rfl) ?_); (repeat (go_big_quiet_step ((go_at_call 39; exact (most_any _ _ _).quiet)))); refine wpQuiet_nil ?_; rintro _ ⟨xr, rfl⟩))
        go_roundw
        case rel => exact ⟨k + 1 + 1, (by repeat (with_reducible first | exact Below.refl _ _ | refine bw_later ?_ _ | refine bw_alloc ?_ _ | refine bw_drew ?_ | refine bw_set ?_ (Nat.le_refl _) _ | refine bw_set ?_ ?_ _ | exact Nat.le_refl _ | exact later_size _ _ | refine Nat.le_trans ?_ (later_size _ _) | refine Nat.le_trans ?_ (size_alloc_le _ _) | refine Nat.le_trans ?_ (Nat.le_add_right _ _))), by omega, by omega, by go_num, vint (Eq.trans (b := climbU xs k + (r.h - q.h)) (by first | rfl | omega | (split <;> omega) | (simp only [x1, x2]; omega)) hc.out.1.symm), vint (Eq.trans (b := climbD xs k) (by first | rfl | omega | (split <;> omega) | (simp only [x1, x2]; omega)) hc.out.2.symm)⟩
        case measure => simp [intOf]; omega
      · have hc := Lib.hid (climb_down hq.out hr.out hd)
        have x1 : most 0 (r.h - q.h) = 0 := by unfold most; split <;> omega
        have x2 : most 0 (-(r.h - q.h)) = q.h - r.h := by unfold most; split <;> omega
        go_wp2_with (first | (go_at_call 35; (first | refine (l2Line_any g off n c xs _ (by first | exact hs | exact hs.later _ | exact hs.alloc _ | exact (hs.alloc _).later _ | exact (hs.later _).alloc _ | exact ((hs.later _).alloc _).later _ | exact ((hs.alloc _).later _).alloc _ | exact (hs.alloc _).alloc _ | exact ((hs.alloc _).alloc _).later _ | exact (((hs.alloc _).later _).alloc _).later _) hn).onL ?_ | refine (l2Line_any g off n c xs _ (by first | exact hs | exact hs.later _ | exact hs.alloc _ | exact (hs.alloc _).later _ | exact (hs.later _).alloc _ | exact ((hs.later _).alloc _).later _ | exact ((hs.alloc _).later _).alloc _ | exact (hs.alloc _).alloc _ | exact ((hs.alloc _).alloc _).later _ | exact (((hs.alloc _).later _).alloc _).later _) hn).on ?_); intro xq) | (go_at_call 39; (first | refine (most_any _ _ _).onL ?_ | refine (most_any _ _ _).on ?_); intro xq) | ((with_reducible refine wp_region_later (by kernel_rfl) (by kernel_rfl) ?_); (repeat (go_big_quiet_step (fail))); refine wpQuiet_nil ?_; rintro _ ⟨xr, rfl⟩) | ((with_reducible refine wp_region_later (by kernel_rfl) (by kernel_rfl) ?_); (repeat (go_big_quiet_step ((go_at_call 39; exact (most_any _ _ _).quiet)))); refine wpQuiet_nil ?_; rintro _ ⟨xr, rfl⟩))
        go_roundw
        case rel => exact ⟨k + 1 + 1, (by repeat (with_reducible first | exact Below.refl _ _ | refine bw_later ?_ _ | refine bw_alloc ?_ _ | refine bw_drew ?_ | refine bw_set ?_ (Nat.le_refl _) _ | refine bw_set ?_ ?_ _ | exact Nat.le_refl _ | exact later_size _ _ | refine Nat.le_trans ?_ (later_size _ _) | refine Nat.le_trans ?_ (size_alloc_le _ _) | refine Nat.le_trans ?_ (Nat.le_add_right _ _))), by omega, by omega, by go_num, vint (Eq.trans (b := climbU xs k) (by first | rfl | omega | (split <;> omega) | (simp only [x1, x2]; omega)) hc.out.1.symm), vint (Eq.trans (b := climbD xs k + (q.h - r.h)) (by first | rfl | omega | (split <;> omega) | (simp only [x1, x2]; omega)) hc.out.2.symm)⟩
        case measure => simp [intOf]; omega
    · obtain rfl : n = k + 1 := by omega
      go_wp2
      go_ret3
      exact ⟨by rw [hfin.out]; rfl, (by repeat (with_reducible first | exact Below.refl _ _ | refine bw_later ?_ _ | refine bw_alloc ?_ _ | refine bw_drew ?_ | refine bw_set ?_ (Nat.le_refl _) _ | refine bw_set ?_ ?_ _ | exact Nat.le_refl _ | exact later_size _ _ | refine Nat.le_trans ?_ (later_size _ _) | refine Nat.le_trans ?_ (size_alloc_le _ _) | refine Nat.le_trans ?_ (Nat.le_add_right _ _)))⟩
theorem law_ClimbOf (A0 : Option Addr) (n0 c0 : Nat) (xs0 : List Sup) (w : World) (rd0 : ASup w A0 n0 xs0 ∧ n0 ≤ 9223372036854775807) : Gv Try.prog 4 #[.slice A0 n0 c0] w (.bool true) := by
  obtain ⟨ha0, hm0⟩ := rd0
  unfold Gv
  by_cases k0 : 1048576 < n0
  · have z0 : szF n0 ((1048576 : Int)) = -1 := by unfold szF; rw [if_pos (by omega)]
    go_enter Try.func4, Try.ntmps4
    go_wp2_with fail
    refine Calls.mono (szSupport_any A0 n0 c0 ((1048576 : Int)) hm0 (by omega) (by omega) _) ?_
    rintro _ w1 ⟨rfl, b1⟩
    have hw := b1
    rw [z0]
    clear z0
    go_wp2_with fail
    go_ret
    exact ⟨rfl, hw⟩
  · have hn0 : n0 ≤ 1048576 := by omega
    have z0 : szF n0 ((1048576 : Int)) = (1048576 : Int) - (n0 : Int) := by unfold szF; rw [if_neg (by omega)]
    go_enter Try.func4, Try.ntmps4
    go_wp2_with fail
    refine Calls.mono (szSupport_any A0 n0 c0 ((1048576 : Int)) hm0 (by omega) (by omega) _) ?_
    rintro _ w1 ⟨rfl, b1⟩
    replace ha0 := ha0.below2 b1
    have hw := b1
    rw [z0]
    clear z0
    go_wp2_with fail
    refine Calls.mono (toSupportS_any A0 n0 c0 xs0 _ ha0 hn0) ?_
    rintro _ w2 ⟨g2, rfl, q2, hB2, b2⟩
    replace ha0 := ha0.below2 b2
    replace hw := bw_trans hw b2
    go_wp2_with fail
    refine Calls.mono (s_ClimbOf_any g2 0 n0 n0 xs0 _ hB2.reads hn0) ?_
    rintro _ w3 ⟨rfl, b3⟩
    replace ha0 := ha0.below2 b3
    replace hB2 := hB2.below2 b3
    replace hw := bw_trans hw b3
    go_wp2_with fail
    refine Calls.mono (toSupportS_any A0 n0 c0 xs0 _ ha0 hn0) ?_
    rintro _ w4 ⟨g4, rfl, q4, hB4, b4⟩
    replace ha0 := ha0.below2 b4
    replace hB2 := hB2.below2 b4
    replace hw := bw_trans hw b4
    go_wp2_with fail
    refine Calls.mono (i_ClimbOf_any g4 0 n0 n0 xs0 _ hB4.reads hn0) ?_
    rintro _ w5 ⟨rfl, b5⟩
    replace ha0 := ha0.below2 b5
    replace hB2 := hB2.below2 b5
    replace hB4 := hB4.below2 b5
    replace hw := bw_trans hw b5
    go_wp2_with fail
    refine Calls.mono (toSupportS_any A0 n0 c0 xs0 _ ha0 hn0) ?_
    rintro _ w6 ⟨g6, rfl, q6, hB6, b6⟩
    replace ha0 := ha0.below2 b6
    replace hB2 := hB2.below2 b6
    replace hB4 := hB4.below2 b6
    replace hw := bw_trans hw b6
    go_wp2_with fail
    refine Calls.mono (eqSupportS_any _ _ n0 n0 n0 n0 xs0 xs0 _ (ASup.of hB4.reads) (ASup.of hB6.reads) hn0 hn0) ?_
    rintro _ w7 ⟨rfl, b7⟩
    replace ha0 := ha0.below2 b7
    replace hB2 := hB2.below2 b7
    replace hB4 := hB4.below2 b7
    replace hB6 := hB6.below2 b7
    replace hw := bw_trans hw b7
    go_wp2_with fail
    go_ret
    exact ⟨rfl, hw⟩
end Go.Proofs.Ytfhggmjmhfafcaa
