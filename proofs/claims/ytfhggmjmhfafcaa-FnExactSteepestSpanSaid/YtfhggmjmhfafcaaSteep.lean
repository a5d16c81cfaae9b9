/- The steepest span: plain side, and the reference's walk. -/
import Derived.Test.YtfhggmjmhfafcaaClimb
import Derived.Test.YtfhggmjmhfafcaaSpanLen
import Derived.Test.YtfhggmjmhfafcaaCmp
namespace Go.Proofs.Ytfhggmjmhfafcaa
open Go.RowKit
/-- How far a span goes up or down, and its length. -/
def rdist (a b : Int) : Int := most (b - a) (-(b - a))
def rN (xs : List Sup) (i : Nat) : Int := rdist (hAt xs i) (hAt xs (i + 1))
def rD (xs : List Sup) (i : Nat) : Int := atAt xs (i + 1) - atAt xs i
theorem rise_bd {xs : List Sup} {n i : Nat} (hL : LineOk xs) (hn : xs.length = n) (hi : i + 1 < n) : (0 ≤ rN xs i ∧ rN xs i ≤ 2000) ∧ (1 ≤ rD xs i ∧ rD xs i ≤ 3000) := by
  have h1 := hAt_bd hL i
  have h2 := hAt_bd hL (i + 1)
  have hr : xs[i + 1]? = some (xs[i + 1]'(by omega)) := List.getElem?_eq_getElem _
  have hq : xs[i]? = some (xs[i]'(by omega)) := List.getElem?_eq_getElem _
  have h3 := hL.up _ _ _ hq hr
  obtain ⟨h4, -⟩ := hL.bd _ _ hr
  obtain ⟨h5, -⟩ := hL.bd _ _ hq
  refine ⟨?_, ?_⟩
  · unfold rN rdist most
    split <;> omega
  · unfold rD
    rw [atAt_of hr, atAt_of hq]
    omega
/-- The first of the steepest among the first k spans. -/
def stB (xs : List Sup) : Nat → Nat
  | 0 => 0
  | k + 1 => if rN xs (stB xs k) * rD xs k < rN xs k * rD xs (stB xs k) then k else stB xs k
theorem st_yes {xs : List Sup} {k : Nat} (h : rN xs (stB xs k) * rD xs k < rN xs k * rD xs (stB xs k)) : stB xs (k + 1) = k := by simp [stB, h]
theorem st_no {xs : List Sup} {k : Nat} (h : ¬ rN xs (stB xs k) * rD xs k < rN xs k * rD xs (stB xs k)) : stB xs (k + 1) = stB xs k := by simp only [stB, if_neg h]
theorem st_one (xs : List Sup) : stB xs 1 = 0 := by
  simp [stB]
theorem st_lt (xs : List Sup) (k m : Nat) (hk : k ≤ m) (h0 : 0 < m) : stB xs k < m := by
  induction k with
  | zero => exact h0
  | succ k ih =>
    by_cases h : rN xs (stB xs k) * rD xs k < rN xs k * rD xs (stB xs k)
    · rw [st_yes h]; omega
    · rw [st_no h]; exact ih (by omega)
def steepF (xs : List Sup) : Int × Bool := if okLine xs then ((stB xs (xs.length - 1) : Int), true) else (0, false)
theorem l2Rise_any (g off n c k : Nat) (xs : List Sup) (w : World) (hs : SSup w g off n xs) (hn : n ≤ 1048576) (hL : LineOk xs) (hk : k + 1 < n) :
    Gv Try.prog 51 #[.slice (some ⟨g, off, none⟩) n c, .int .i64 (k : Int)] w (.tuple #[.int .i64 (rN xs k), .int .i64 (rD xs k)]) := by
  unfold Gv
  obtain ⟨r, hr0⟩ := hs.at_ (k := k + 1) hk
  obtain ⟨q, hq0⟩ := hs.at_ (k := k) (by omega)
  obtain ⟨r1, r2, -⟩ := hs.2.2 (k + 1) r hr0
  obtain ⟨q1, q2, -⟩ := hs.2.2 k q hq0
  obtain ⟨⟨d1, d2⟩, d3, d4⟩ := hL.bd _ _ hr0
  obtain ⟨⟨d5, d6⟩, d7, d8⟩ := hL.bd _ _ hq0
  have e1 : rN xs k = most (r.h - q.h) (-(r.h - q.h)) := by simp only [rN, rdist, hAt_of hr0, hAt_of hq0]
  have e2 : rD xs k = r.at_ - q.at_ := by simp only [rD, atAt_of hr0, atAt_of hq0]
  rw [e1, e2]
  have hg := hs.1
  have iw : IntKind.i64.wrap ((k : Int) + 1) = (k : Int) + 1 := Go.IntWalk.i64_in _ (by omega)
  have iw1 : IntKind.i64.wrap (r.at_ - q.at_) = r.at_ - q.at_ := Go.IntWalk.i64_in _ (by omega)
  have iw2 : IntKind.i64.wrap (r.h - q.h) = r.h - q.h := Go.IntWalk.i64_in _ (by omega)
  have iw3 : IntKind.i64.wrap (-(r.h - q.h)) = -(r.h - q.h) := Go.IntWalk.i64_in _ (by omega)
  have i1 : (0 : Int) ≤ (k : Int) + 1 := by omega
  have i2 : (k : Int) + 1 < (n : Int) := by omega
  have i3 : (k : Int) < (n : Int) := by omega
  have i4 : k < n := by omega
  clear hr0 hq0 hL e1 e2
  go_enter Try.func51, Try.ntmps51
  go_wp2_with ((with_reducible refine wp_region_later (by kernel_rfl) (by kernel_rfl) ?_); (repeat (go_big_quiet_step ((go_at_call 39; exact (most_any _ _ _).quiet)))); refine wpQuiet_nil ?_; rintro _ ⟨xr, rfl⟩)
  go_ret2
  exact ⟨rfl, (by repeat (with_reducible first | exact Below.refl _ _ | refine bw_later ?_ _ | refine bw_alloc ?_ _ | refine bw_drew ?_ | refine bw_set ?_ (Nat.le_refl _) _ | refine bw_set ?_ ?_ _ | exact Nat.le_refl _ | exact later_size _ _ | refine Nat.le_trans ?_ (later_size _ _) | refine Nat.le_trans ?_ (size_alloc_le _ _) | refine Nat.le_trans ?_ (Nat.le_add_right _ _)))⟩
set_option maxHeartbeats 4000000 in
theorem s_SteepestSpan_any (g off n c : Nat) (xs : List Sup) (w : World) (hs : SSup w g off n xs) (hn : n ≤ 1048576) : Gv Try.prog 33 #[.slice (some ⟨g, off, none⟩) n c] w (.tuple #[.int .i64 ((steepF xs)).1, .bool ((steepF xs)).2]) := by
  unfold Gv
  cases h0 : okLine xs
  · have hfin := Lib.hid (show steepF xs = (0, false) by simp [steepF, h0])
    go_enter Try.func33, Try.ntmps33
    go_wp2_with (first | (go_at_call 35; (first | refine (l2Line_any g off n c xs _ (by first | exact hs | exact hs.later _ | exact hs.alloc _ | exact (hs.alloc _).later _ | exact (hs.later _).alloc _ | exact ((hs.later _).alloc _).later _ | exact ((hs.alloc _).later _).alloc _ | exact (hs.alloc _).alloc _ | exact ((hs.alloc _).alloc _).later _ | exact (((hs.alloc _).later _).alloc _).later _) hn).onL ?_ | refine (l2Line_any g off n c xs _ (by first | exact hs | exact hs.later _ | exact hs.alloc _ | exact (hs.alloc _).later _ | exact (hs.later _).alloc _ | exact ((hs.later _).alloc _).later _ | exact ((hs.alloc _).later _).alloc _ | exact (hs.alloc _).alloc _ | exact ((hs.alloc _).alloc _).later _ | exact (((hs.alloc _).later _).alloc _).later _) hn).on ?_); intro xq))
    all_goals (go_ret2; exact ⟨by rw [hfin.out]; try rfl, (by repeat (with_reducible first | exact Below.refl _ _ | refine bw_later ?_ _ | refine bw_alloc ?_ _ | refine bw_drew ?_ | refine bw_set ?_ (Nat.le_refl _) _ | refine bw_set ?_ ?_ _ | exact Nat.le_refl _ | exact later_size _ _ | refine Nat.le_trans ?_ (later_size _ _) | refine Nat.le_trans ?_ (size_alloc_le _ _) | refine Nat.le_trans ?_ (Nat.le_add_right _ _)))⟩)
  have hfin := Lib.hid (show steepF xs = ((stB xs (n - 1) : Int), true) by simp [steepF, h0, hs.2.1])
  have hle := Lib.hid hs.2.1
  have hg := hs.1
  have hL := line_ok h0
  have h28 := hL.len
  rw [hs.2.1] at h28
  go_enter Try.func33, Try.ntmps33
  go_wp2_with (first | (go_at_call 35; (first | refine (l2Line_any g off n c xs _ (by first | exact hs | exact hs.later _ | exact hs.alloc _ | exact (hs.alloc _).later _ | exact (hs.later _).alloc _ | exact ((hs.later _).alloc _).later _ | exact ((hs.alloc _).later _).alloc _ | exact (hs.alloc _).alloc _ | exact ((hs.alloc _).alloc _).later _ | exact (((hs.alloc _).later _).alloc _).later _) hn).onL ?_ | refine (l2Line_any g off n c xs _ (by first | exact hs | exact hs.later _ | exact hs.alloc _ | exact (hs.alloc _).later _ | exact (hs.later _).alloc _ | exact ((hs.later _).alloc _).later _ | exact ((hs.alloc _).later _).alloc _ | exact (hs.alloc _).alloc _ | exact ((hs.alloc _).alloc _).later _ | exact (((hs.alloc _).later _).alloc _).later _) hn).on ?_); intro xq))
  clear h0
  go_loopw [4, 5] (fun b i wr => ∃ k : Nat, 1 ≤ k ∧ k ≤ n - 1 ∧ i = .int .i64 (k : Int) ∧ b = .int .i64 (stB xs k : Int) ∧ Below w.heap.size w wr) (fun _ i _ => n - (intOf i).toNat)
  case atStart => exact ⟨1, by omega, by omega, rfl, by rw [st_one]; rfl, (by repeat (with_reducible first | exact Below.refl _ _ | refine bw_later ?_ _ | refine bw_alloc ?_ _ | refine bw_drew ?_ | refine bw_set ?_ (Nat.le_refl _) _ | refine bw_set ?_ ?_ _ | exact Nat.le_refl _ | exact later_size _ _ | refine Nat.le_trans ?_ (later_size _ _) | refine Nat.le_trans ?_ (size_alloc_le _ _) | refine Nat.le_trans ?_ (Nat.le_add_right _ _)))⟩
  case round =>
    obtain ⟨k, hk1, hk, rfl, rfl, hbw⟩ := hrel
    obtain ⟨y, rfl⟩ := exists_later hbw
    clear hbw
    have hgy := lt_later _ y g hg
    have hB := st_lt xs k (n - 1) hk (by omega)
    by_cases hlt : k + 1 < n
    · obtain ⟨⟨a1, a2⟩, a3, a4⟩ := rise_bd hL hle.out hlt
      obtain ⟨⟨b1, b2⟩, b3, b4⟩ := rise_bd (i := stB xs k) hL hle.out (by omega)
      obtain ⟨m1, m2⟩ := mul_bd (a := rN xs k) (b := rD xs (stB xs k)) (A := 2000) (B := 3000) a1 a2 (by omega) b4
      obtain ⟨m3, m4⟩ := mul_bd (a := rN xs (stB xs k)) (b := rD xs k) (A := 2000) (B := 3000) b1 b2 (by omega) a4
      have W1 : IntKind.i64.wrap (rN xs k * rD xs (stB xs k)) = rN xs k * rD xs (stB xs k) := Go.IntWalk.i64_in _ (by omega)
      have W2 : IntKind.i64.wrap (rN xs (stB xs k) * rD xs k) = rN xs (stB xs k) * rD xs k := Go.IntWalk.i64_in _ (by omega)
      have hB1 : stB xs k + 1 < n := by omega
      have Sy := Lib.hid (st_yes (xs := xs) (k := k))
      have Sn := Lib.hid (st_no (xs := xs) (k := k))
      clear m1 m2 m3 m4 a1 a2 a3 a4 b1 b2 b3 b4 hB
      generalize stB xs k = b0 at *
      have hcK : Hid (∀ w, SSup w g off n xs → _) := Lib.hid fun w h => l2Rise_any g off n c k xs w h hn hL hlt
      have hcB : Hid (∀ w, SSup w g off n xs → _) := Lib.hid fun w h => l2Rise_any g off n c b0 xs w h hn hL hB1
      by_cases hgt : rN xs (b0) * rD xs k < rN xs k * rD xs (b0)
      · have Hg := Lib.hid hgt
        have hd : decide (rN xs (b0) * rD xs k < rN xs k * rD xs (b0)) = true := by simpa using hgt
        go_wp2_with (first | (go_at_call 51; (first | refine (hcK.out _ (by first | exact hs | exact hs.later _ | exact hs.alloc _ | exact (hs.alloc _).later _ | exact (hs.later _).alloc _ | exact ((hs.later _).alloc _).later _ | exact ((hs.alloc _).later _).alloc _ | exact (hs.alloc _).alloc _ | exact ((hs.alloc _).alloc _).later _ | exact (((hs.alloc _).later _).alloc _).later _)).onL ?_ | refine (hcK.out _ (by first | exact hs | exact hs.later _ | exact hs.alloc _ | exact (hs.alloc _).later _ | exact (hs.later _).alloc _ | exact ((hs.later _).alloc _).later _ | exact ((hs.alloc _).later _).alloc _ | exact (hs.alloc _).alloc _ | exact ((hs.alloc _).alloc _).later _ | exact (((hs.alloc _).later _).alloc _).later _)).on ?_); intro xq; clear hcK) | (go_at_call 51; (first | refine (hcB.out _ (by first | exact hs | exact hs.later _ | exact hs.alloc _ | exact (hs.alloc _).later _ | exact (hs.later _).alloc _ | exact ((hs.later _).alloc _).later _ | exact ((hs.alloc _).later _).alloc _ | exact (hs.alloc _).alloc _ | exact ((hs.alloc _).alloc _).later _ | exact (((hs.alloc _).later _).alloc _).later _)).onL ?_ | refine (hcB.out _ (by first | exact hs | exact hs.later _ | exact hs.alloc _ | exact (hs.alloc _).later _ | exact (hs.later _).alloc _ | exact ((hs.later _).alloc _).later _ | exact ((hs.alloc _).later _).alloc _ | exact (hs.alloc _).alloc _ | exact ((hs.alloc _).alloc _).later _ | exact (((hs.alloc _).later _).alloc _).later _)).on ?_); intro xq))
        go_roundw
        case rel => exact ⟨k + 1, by omega, by omega, by go_num, by rw [Sy.out Hg.out], (by repeat (with_reducible first | exact Below.refl _ _ | refine bw_later ?_ _ | refine bw_alloc ?_ _ | refine bw_drew ?_ | refine bw_set ?_ (Nat.le_refl _) _ | refine bw_set ?_ ?_ _ | exact Nat.le_refl _ | exact later_size _ _ | refine Nat.le_trans ?_ (later_size _ _) | refine Nat.le_trans ?_ (size_alloc_le _ _) | refine Nat.le_trans ?_ (Nat.le_add_right _ _)))⟩
        case measure => simp [intOf]; omega
      · have Hg := Lib.hid hgt
        have hd : decide (rN xs (b0) * rD xs k < rN xs k * rD xs (b0)) = false := by simpa using hgt
        go_wp2_with (first | (go_at_call 51; (first | refine (hcK.out _ (by first | exact hs | exact hs.later _ | exact hs.alloc _ | exact (hs.alloc _).later _ | exact (hs.later _).alloc _ | exact ((hs.later _).alloc _).later _ | exact ((hs.alloc _).later _).alloc _ | exact (hs.alloc _).alloc _ | exact ((hs.alloc _).alloc _).later _ | exact (((hs.alloc _).later _).alloc _).later _)).onL ?_ | refine (hcK.out _ (by first | exact hs | exact hs.later _ | exact hs.alloc _ | exact (hs.alloc _).later _ | exact (hs.later _).alloc _ | exact ((hs.later _).alloc _).later _ | exact ((hs.alloc _).later _).alloc _ | exact (hs.alloc _).alloc _ | exact ((hs.alloc _).alloc _).later _ | exact (((hs.alloc _).later _).alloc _).later _)).on ?_); intro xq; clear hcK) | (go_at_call 51; (first | refine (hcB.out _ (by first | exact hs | exact hs.later _ | exact hs.alloc _ | exact (hs.alloc _).later _ | exact (hs.later _).alloc _ | exact ((hs.later _).alloc _).later _ | exact ((hs.alloc _).later _).alloc _ | exact (hs.alloc _).alloc _ | exact ((hs.alloc _).alloc _).later _ | exact (((hs.alloc _).later _).alloc _).later _)).onL ?_ | refine (hcB.out _ (by first | exact hs | exact hs.later _ | exact hs.alloc _ | exact (hs.alloc _).later _ | exact (hs.later _).alloc _ | exact ((hs.later _).alloc _).later _ | exact ((hs.alloc _).later _).alloc _ | exact (hs.alloc _).alloc _ | exact ((hs.alloc _).alloc _).later _ | exact (((hs.alloc _).later _).alloc _).later _)).on ?_); intro xq))
        go_roundw
        case rel => exact ⟨k + 1, by omega, by omega, by go_num, by rw [Sn.out Hg.out], (by repeat (with_reducible first | exact Below.refl _ _ | refine bw_later ?_ _ | refine bw_alloc ?_ _ | refine bw_drew ?_ | refine bw_set ?_ (Nat.le_refl _) _ | refine bw_set ?_ ?_ _ | exact Nat.le_refl _ | exact later_size _ _ | refine Nat.le_trans ?_ (later_size _ _) | refine Nat.le_trans ?_ (size_alloc_le _ _) | refine Nat.le_trans ?_ (Nat.le_add_right _ _)))⟩
        case measure => simp [intOf]; omega
    · obtain rfl : n = k + 1 := by omega
      go_wp2
      go_ret2
      exact ⟨by rw [hfin.out]; rfl, (by repeat (with_reducible first | exact Below.refl _ _ | refine bw_later ?_ _ | refine bw_alloc ?_ _ | refine bw_drew ?_ | refine bw_set ?_ (Nat.le_refl _) _ | refine bw_set ?_ ?_ _ | exact Nat.le_refl _ | exact later_size _ _ | refine Nat.le_trans ?_ (later_size _ _) | refine Nat.le_trans ?_ (size_alloc_le _ _) | refine Nat.le_trans ?_ (Nat.le_add_right _ _)))⟩
end Go.Proofs.Ytfhggmjmhfafcaa
