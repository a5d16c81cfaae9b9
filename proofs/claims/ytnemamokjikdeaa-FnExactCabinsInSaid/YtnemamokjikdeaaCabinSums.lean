/- The seats of the cabins on the line; the next cabin out. -/
import Derived.Test.YtnemamokjikdeaaCabins
namespace Go.Proofs.Ytnemamokjikdeaa
open Go.RowKit
theorem impl_AreCabins_ok (g off n c : Nat) (xs : List R5) (w : World) (hs : SR5 w g off n xs) (hn : n ≤ 1048576) : Gv Try.prog 20 #[.slice (some ⟨g, off, none⟩) n c] w (.bool (okList isCabin 12 xs)) := by
  have h := impl_AreCabins_any g off n c xs w hs hn
  unfold okList
  rw [hs.2.1]
  exact h

theorem l5Good_ok (g off n c : Nat) (xs : List R5) (w : World) (hs : SR5 w g off n xs) (hn : n ≤ 1048576) : Gv Try.prog 42 #[.slice (some ⟨g, off, none⟩) n c] w (.bool (okList isCabin 12 xs)) := by
  have h := l5Good_any g off n c xs w hs hn
  unfold okList
  rw [hs.2.1]
  exact h
def seatsTo (xs : List R5) : Nat → Int
  | 0 => 0
  | k + 1 => match xs[k]? with
    | some r => if r.d = 1 then seatsTo xs k + r.b else seatsTo xs k
    | none => seatsTo xs k
def seatsF (xs : List R5) : Int × Bool := if okList isCabin 12 xs then (seatsTo xs xs.length, true) else (0, false)
theorem seatsTo_no {xs : List R5} {k : Nat} {r : R5} (hr : xs[k]? = some r) (h : ¬ r.d = 1) : seatsTo xs (k + 1) = seatsTo xs k := by simp [seatsTo, hr, h]
theorem seatsTo_yes {xs : List R5} {k : Nat} {r : R5} (hr : xs[k]? = some r) (h : r.d = 1) : seatsTo xs (k + 1) = seatsTo xs k + r.b := by simp [seatsTo, hr, h]
def nextF (xs : List R5) (m : Int) : Int × Bool := if okList isCabin 12 xs && inB m 1 16 then bestOut xs (fun q => q.a) (bestTo (fun r => (r.d == 0) && decide (m ≤ r.b)) (fun q => q.e) xs xs.length) else (0, false)
theorem i_SeatsOnLine_any (g off n c : Nat) (xs : List R5) (w : World) (hs : SR5 w g off n xs) (hn : n ≤ 1048576) : Gv Try.prog 23 #[.slice (some ⟨g, off, none⟩) n c] w (.tuple #[.int .i64 (seatsF xs).1, .bool (seatsF xs).2]) := by
  unfold Gv
  have hl := Lib.hid hs.2.1
  cases hv : okList isCabin 12 xs
  · go_enter Try.func23, Try.ntmps23
    go_wp2_with (go_at_call 20; (first | refine (impl_AreCabins_ok g off n c xs w hs hn).onL ?_ | refine (impl_AreCabins_ok g off n c xs w hs hn).on ?_); intro x)
    go_ret2
    exact ⟨by simp [seatsF, hv], (by repeat (with_reducible first | exact Below.refl _ _ | refine bw_later ?_ _ | refine bw_alloc ?_ _ | refine bw_drew ?_))⟩
  · obtain ⟨hgood, h12⟩ := okList_t hv hs.2.1
    have hfin := Lib.hid (show seatsF xs = (seatsTo xs n, true) by simp [seatsF, hv, hs.2.1])
    have Hg := Lib.hid hgood
    clear hgood
    go_enter Try.func23, Try.ntmps23
    go_wp2_with (go_at_call 20; (first | refine (impl_AreCabins_ok g off n c xs w hs hn).onL ?_ | refine (impl_AreCabins_ok g off n c xs w hs hn).on ?_); intro x)
    clear hv
    go_loopw [4, 12] (fun t i wr => ∃ (k : Nat) (s : Int), Below w.heap.size w wr ∧ k ≤ n ∧ i = .int .i64 (k : Int) ∧ t = .int .i64 s ∧ 0 ≤ s ∧ s ≤ 16 * (k : Int) ∧ Hid (s = seatsTo xs k)) (fun _ i _ => n - (intOf i).toNat)
    case atStart => exact ⟨0, 0, (by repeat (with_reducible first | exact Below.refl _ _ | refine bw_later ?_ _ | refine bw_alloc ?_ _ | refine bw_drew ?_)), by omega, rfl, rfl, by omega, by omega, rfl⟩
    case round =>
      obtain ⟨k, s, hb, hk, rfl, rfl, s0, s1, hsum⟩ := hrel
      obtain ⟨y, rfl⟩ := exists_later hb
      clear hb
      by_cases hlt : k < n
      · obtain ⟨r, hr0⟩ := hs.at_ hlt
        obtain ⟨c0, c1, c2, c3, c4⟩ := hs.2.2 k r hr0
        obtain ⟨-, ⟨b1, b2⟩, -, -, -⟩ := cabin_bd (good_each Hg.out hr0)
        have hg := hs.1
        have hr := Lib.hid hr0
        clear hr0
        cases hd : (r.d == 1)
        · go_wp2
          go_roundw
          case rel => exact ⟨k + 1, s, (by repeat (with_reducible first | exact Below.refl _ _ | refine bw_later ?_ _ | refine bw_alloc ?_ _ | refine bw_drew ?_)), by omega, by go_num, rfl, s0, by omega, hsum.out.trans (seatsTo_no hr.out (by simpa using hd)).symm⟩
          case measure => simp [intOf]; omega
        · go_wp2
          go_roundw
          case rel => exact ⟨k + 1, s + r.b, (by repeat (with_reducible first | exact Below.refl _ _ | refine bw_later ?_ _ | refine bw_alloc ?_ _ | refine bw_drew ?_)), by omega, by go_num, rfl, by omega, by omega, (congrArg (· + r.b) hsum.out).trans (seatsTo_yes hr.out (by simpa using hd)).symm⟩
          case measure => simp [intOf]; omega
      · obtain rfl : k = n := by omega
        go_wp2
        go_ret2
        exact ⟨by rw [hfin.out, ← hsum.out]; rfl, (by repeat (with_reducible first | exact Below.refl _ _ | refine bw_later ?_ _ | refine bw_alloc ?_ _ | refine bw_drew ?_))⟩
theorem s_SeatsOnLine_any (g off n c : Nat) (xs : List R5) (w : World) (hs : SR5 w g off n xs) (hn : n ≤ 1048576) : Gv Try.prog 22 #[.slice (some ⟨g, off, none⟩) n c] w (.tuple #[.int .i64 (seatsF xs).1, .bool (seatsF xs).2]) := by
  unfold Gv
  have hl := Lib.hid hs.2.1
  cases hv : okList isCabin 12 xs
  · go_enter Try.func22, Try.ntmps22
    go_wp2_with (go_at_call 42; (first | refine (l5Good_ok g off n c xs w hs hn).onL ?_ | refine (l5Good_ok g off n c xs w hs hn).on ?_); intro x)
    go_ret2
    exact ⟨by simp [seatsF, hv], (by repeat (with_reducible first | exact Below.refl _ _ | refine bw_later ?_ _ | refine bw_alloc ?_ _ | refine bw_drew ?_))⟩
  · obtain ⟨hgood, h12⟩ := okList_t hv hs.2.1
    have hfin := Lib.hid (show seatsF xs = (seatsTo xs n, true) by simp [seatsF, hv, hs.2.1])
    have Hg := Lib.hid hgood
    clear hgood
    go_enter Try.func22, Try.ntmps22
    go_wp2_with (go_at_call 42; (first | refine (l5Good_ok g off n c xs w hs hn).onL ?_ | refine (l5Good_ok g off n c xs w hs hn).on ?_); intro x)
    clear hv
    go_loopw [4, 5] (fun t i wr => ∃ (k : Nat) (s : Int), Below w.heap.size w wr ∧ k ≤ n ∧ i = .int .i64 (k : Int) ∧ t = .int .i64 s ∧ 0 ≤ s ∧ s ≤ 16 * (k : Int) ∧ Hid (s = seatsTo xs k)) (fun _ i _ => n - (intOf i).toNat)
    case atStart => exact ⟨0, 0, (by repeat (with_reducible first | exact Below.refl _ _ | refine bw_later ?_ _ | refine bw_alloc ?_ _ | refine bw_drew ?_)), by omega, rfl, rfl, by omega, by omega, rfl⟩
    case round =>
      obtain ⟨k, s, hb, hk, rfl, rfl, s0, s1, hsum⟩ := hrel
      obtain ⟨y, rfl⟩ := exists_later hb
      clear hb
      by_cases hlt : k < n
      · obtain ⟨r, hr0⟩ := hs.at_ hlt
        obtain ⟨c0, c1, c2, c3, c4⟩ := hs.2.2 k r hr0
        obtain ⟨-, ⟨b1, b2⟩, -, -, -⟩ := cabin_bd (good_each Hg.out hr0)
        have hg := hs.1
        have hr := Lib.hid hr0
        clear hr0
        cases hd : (r.d == 1)
        · go_wp2
          go_roundw
          case rel => exact ⟨k + 1, s, (by repeat (with_reducible first | exact Below.refl _ _ | refine bw_later ?_ _ | refine bw_alloc ?_ _ | refine bw_drew ?_)), by omega, by go_num, rfl, s0, by omega, hsum.out.trans (seatsTo_no hr.out (by simpa using hd)).symm⟩
          case measure => simp [intOf]; omega
        · go_wp2
          go_roundw
          case rel => exact ⟨k + 1, s + r.b, (by repeat (with_reducible first | exact Below.refl _ _ | refine bw_later ?_ _ | refine bw_alloc ?_ _ | refine bw_drew ?_)), by omega, by go_num, rfl, by omega, by omega, (congrArg (· + r.b) hsum.out).trans (seatsTo_yes hr.out (by simpa using hd)).symm⟩
          case measure => simp [intOf]; omega
      · obtain rfl : k = n := by omega
        go_wp2
        go_ret2
        exact ⟨by rw [hfin.out, ← hsum.out]; rfl, (by repeat (with_reducible first | exact Below.refl _ _ | refine bw_later ?_ _ | refine bw_alloc ?_ _ | refine bw_drew ?_))⟩
theorem law_SeatsOnLine (A0 : Option Addr) (n0 c0 : Nat) (xs0 : List R5) (w : World) (rd0 : AR5 w A0 n0 xs0 ∧ n0 ≤ 9223372036854775807) : Gv Try.prog 6 #[.slice A0 n0 c0] w (.bool true) := by
  obtain ⟨ha0, hm0⟩ := rd0
  unfold Gv
  by_cases k0 : 1048576 < n0
  · have z0 : szF n0 ((1048576 : Int)) = -1 := by unfold szF; rw [if_pos (by omega)]
    go_enter Try.func6, Try.ntmps6
    go_wp2_with fail
    refine Calls.mono (szCabin_any A0 n0 c0 ((1048576 : Int)) hm0 (by omega) (by omega) _) ?_
    rintro _ w1 ⟨rfl, b1⟩
    have hw := b1
    rw [z0]
    clear z0
    go_wp2_with fail
    go_ret
    exact ⟨rfl, hw⟩
  · have hn0 : n0 ≤ 1048576 := by omega
    have z0 : szF n0 ((1048576 : Int)) = (1048576 : Int) - (n0 : Int) := by unfold szF; rw [if_neg (by omega)]
    go_enter Try.func6, Try.ntmps6
    go_wp2_with fail
    refine Calls.mono (szCabin_any A0 n0 c0 ((1048576 : Int)) hm0 (by omega) (by omega) _) ?_
    rintro _ w1 ⟨rfl, b1⟩
    replace ha0 := ha0.below2 b1
    have hw := b1
    rw [z0]
    clear z0
    go_wp2_with fail
    refine Calls.mono (toCabinS_any A0 n0 c0 xs0 _ ha0 hn0) ?_
    rintro _ w2 ⟨g2, rfl, q2, hB2, b2⟩
    replace ha0 := ha0.below2 b2
    replace hw := bw_trans hw b2
    go_wp2_with fail
    refine Calls.mono (s_SeatsOnLine_any g2 0 n0 n0 xs0 _ hB2.reads hn0) ?_
    rintro _ w3 ⟨rfl, b3⟩
    replace ha0 := ha0.below2 b3
    replace hB2 := hB2.below2 b3
    replace hw := bw_trans hw b3
    go_wp2_with fail
    refine Calls.mono (toCabinS_any A0 n0 c0 xs0 _ ha0 hn0) ?_
    rintro _ w4 ⟨g4, rfl, q4, hB4, b4⟩
    replace ha0 := ha0.below2 b4
    replace hB2 := hB2.below2 b4
    replace hw := bw_trans hw b4
    go_wp2_with fail
    refine Calls.mono (i_SeatsOnLine_any g4 0 n0 n0 xs0 _ hB4.reads hn0) ?_
    rintro _ w5 ⟨rfl, b5⟩
    replace ha0 := ha0.below2 b5
    replace hB2 := hB2.below2 b5
    replace hB4 := hB4.below2 b5
    replace hw := bw_trans hw b5
    go_wp2_with fail
    refine Calls.mono (toCabinS_any A0 n0 c0 xs0 _ ha0 hn0) ?_
    rintro _ w6 ⟨g6, rfl, q6, hB6, b6⟩
    replace ha0 := ha0.below2 b6
    replace hB2 := hB2.below2 b6
    replace hB4 := hB4.below2 b6
    replace hw := bw_trans hw b6
    go_wp2_with fail
    refine Calls.mono (eqCabinS_any _ _ n0 n0 n0 n0 xs0 xs0 _ (AR5.of hB4.reads) (AR5.of hB6.reads) hn0 hn0) ?_
    rintro _ w7 ⟨rfl, b7⟩
    replace ha0 := ha0.below2 b7
    replace hB2 := hB2.below2 b7
    replace hB4 := hB4.below2 b7
    replace hB6 := hB6.below2 b7
    replace hw := bw_trans hw b7
    go_wp2_with fail
    go_ret
    exact ⟨rfl, hw⟩
theorem i_NextOut_any (g off n c : Nat) (xs : List R5) (m : Int) (w : World) (hs : SR5 w g off n xs) (hn : n ≤ 1048576) : Gv Try.prog 25 #[.slice (some ⟨g, off, none⟩) n c, .int .i64 m] w (.tuple #[.int .i64 (nextF xs m).1, .bool (nextF xs m).2]) := by
  unfold Gv
  have hl := Lib.hid hs.2.1
  cases hv : okList isCabin 12 xs
  · go_enter Try.func25, Try.ntmps25
    go_wp2_with (first | (go_at_call 20; (first | refine (impl_AreCabins_ok g off n c xs w hs hn).onL ?_ | refine (impl_AreCabins_ok g off n c xs w hs hn).on ?_); intro x) | (go_at_call 40; (first | refine (within_any _ _ _ _).onL ?_ | refine (within_any _ _ _ _).on ?_); intro x))
    go_ret2
    exact ⟨by simp [nextF, hv], (by repeat (with_reducible first | exact Below.refl _ _ | refine bw_later ?_ _ | refine bw_alloc ?_ _ | refine bw_drew ?_))⟩
  cases hi : inB m 1 16
  · go_enter Try.func25, Try.ntmps25
    go_wp2_with (first | (go_at_call 20; (first | refine (impl_AreCabins_ok g off n c xs w hs hn).onL ?_ | refine (impl_AreCabins_ok g off n c xs w hs hn).on ?_); intro x) | (go_at_call 40; (first | refine (within_any _ _ _ _).onL ?_ | refine (within_any _ _ _ _).on ?_); intro x))
    go_ret2
    exact ⟨by simp [nextF, hv, hi], (by repeat (with_reducible first | exact Below.refl _ _ | refine bw_later ?_ _ | refine bw_alloc ?_ _ | refine bw_drew ?_))⟩
  obtain ⟨hgood, h12⟩ := okList_t hv hs.2.1
  have hfin := Lib.hid (show nextF xs m = bestOut xs (fun q => q.a) (bestTo (fun r => (r.d == 0) && decide (m ≤ r.b)) (fun q => q.e) xs n) by simp [nextF, hv, hi, hs.2.1])
  clear hgood
  go_enter Try.func25, Try.ntmps25
  go_wp2_with (first | (go_at_call 20; (first | refine (impl_AreCabins_ok g off n c xs w hs hn).onL ?_ | refine (impl_AreCabins_ok g off n c xs w hs hn).on ?_); intro x) | (go_at_call 40; (first | refine (within_any _ _ _ _).onL ?_ | refine (within_any _ _ _ _).on ?_); intro x))
  clear hv hi
  go_loopw [6, 19] (fun t i wr => ∃ (k : Nat) (b : Int), Below w.heap.size w wr ∧ k ≤ n ∧ i = .int .i64 (k : Int) ∧ t = .int .i64 b ∧ (b = -1 ∨ ∃ j : Nat, b = (j : Int) ∧ j < k) ∧ Hid (b = bestTo (fun r => (r.d == 0) && decide (m ≤ r.b)) (fun q => q.e) xs k)) (fun _ i _ => n - (intOf i).toNat)
  case atStart => exact ⟨0, -1, (by repeat (with_reducible first | exact Below.refl _ _ | refine bw_later ?_ _ | refine bw_alloc ?_ _ | refine bw_drew ?_)), by omega, rfl, rfl, .inl rfl, rfl⟩
  case round =>
    obtain ⟨k, b, hbw, hk, rfl, rfl, hbb, hbest⟩ := hrel
    obtain ⟨y, rfl⟩ := exists_later hbw
    clear hbw
    have hg := hs.1
    by_cases hlt : k < n
    · obtain ⟨r, hr0⟩ := hs.at_ hlt
      obtain ⟨c0, c1, c2, c3, c4⟩ := hs.2.2 k r hr0
      have hr := Lib.hid hr0
      clear hr0
      cases p0 : (r.d == 0)
      · have hpre : Hid ((fun r => (r.d == 0) && decide (m ≤ r.b)) r = false) := by show (fun r => (r.d == 0) && decide (m ≤ r.b)) r = false; simp [p0]
        go_wp2_with ((with_reducible refine wp_region_later (by kernel_rfl) (by kernel_rfl) ?_); (repeat (go_big_quiet_step (fail))); refine wpQuiet_nil ?_; rintro _ ⟨xr, rfl⟩)
        go_roundw
        case rel => exact ⟨k + 1, b, (by repeat (with_reducible first | exact Below.refl _ _ | refine bw_later ?_ _ | refine bw_alloc ?_ _ | refine bw_drew ?_)), by omega, by go_num, rfl, hbb.imp id (fun ⟨j, h, hj⟩ => ⟨j, h, by omega⟩), hbest.out.trans (best_no hr.out hpre.out).symm⟩
        case measure => simp [intOf]; omega
      · cases p1 : decide (m ≤ r.b)
        · have hpre : Hid ((fun r => (r.d == 0) && decide (m ≤ r.b)) r = false) := by show (fun r => (r.d == 0) && decide (m ≤ r.b)) r = false; simp [p0, p1]
          go_wp2_with ((with_reducible refine wp_region_later (by kernel_rfl) (by kernel_rfl) ?_); (repeat (go_big_quiet_step (fail))); refine wpQuiet_nil ?_; rintro _ ⟨xr, rfl⟩)
          go_roundw
          case rel => exact ⟨k + 1, b, (by repeat (with_reducible first | exact Below.refl _ _ | refine bw_later ?_ _ | refine bw_alloc ?_ _ | refine bw_drew ?_)), by omega, by go_num, rfl, hbb.imp id (fun ⟨j, h, hj⟩ => ⟨j, h, by omega⟩), hbest.out.trans (best_no hr.out hpre.out).symm⟩
          case measure => simp [intOf]; omega
        · have hpre : Hid ((fun r => (r.d == 0) && decide (m ≤ r.b)) r = true) := by show (fun r => (r.d == 0) && decide (m ≤ r.b)) r = true; simp [p0, p1]
          cases hbb with
          | inl h =>
            obtain rfl : b = -1 := h
            go_wp2_with ((with_reducible refine wp_region_later (by kernel_rfl) (by kernel_rfl) ?_); (repeat (go_big_quiet_step (fail))); refine wpQuiet_nil ?_; rintro _ ⟨xr, rfl⟩)
            go_roundw
            case rel => exact ⟨k + 1, k, (by repeat (with_reducible first | exact Below.refl _ _ | refine bw_later ?_ _ | refine bw_alloc ?_ _ | refine bw_drew ?_)), by omega, by go_num, rfl, .inr ⟨k, rfl, by omega⟩, (best_first hr.out hpre.out hbest.out.symm).symm⟩
            case measure => simp [intOf]; omega
          | inr h =>
            obtain ⟨j, rfl, hj⟩ := h
            obtain ⟨q, hq0⟩ := hs.at_ (k := j) (by omega)
            obtain ⟨d0, d1, d2, d3, d4⟩ := hs.2.2 j q hq0
            have hq := Lib.hid hq0
            clear hq0
            have hj0 : decide ((j : Int) < 0) = false := by simp
            cases hcmp : decide (r.e < q.e)
            · go_wp2_with ((with_reducible refine wp_region_later (by kernel_rfl) (by kernel_rfl) ?_); (repeat (go_big_quiet_step (fail))); refine wpQuiet_nil ?_; rintro _ ⟨xr, rfl⟩)
              go_roundw
              case rel => exact ⟨k + 1, j, (by repeat (with_reducible first | exact Below.refl _ _ | refine bw_later ?_ _ | refine bw_alloc ?_ _ | refine bw_drew ?_)), by omega, by go_num, rfl, .inr ⟨j, rfl, by omega⟩, (best_ge hr.out hpre.out hbest.out.symm hq.out hcmp).symm⟩
              case measure => simp [intOf]; omega
            · go_wp2_with ((with_reducible refine wp_region_later (by kernel_rfl) (by kernel_rfl) ?_); (repeat (go_big_quiet_step (fail))); refine wpQuiet_nil ?_; rintro _ ⟨xr, rfl⟩)
              go_roundw
              case rel => exact ⟨k + 1, k, (by repeat (with_reducible first | exact Below.refl _ _ | refine bw_later ?_ _ | refine bw_alloc ?_ _ | refine bw_drew ?_)), by omega, by go_num, rfl, .inr ⟨k, rfl, by omega⟩, (best_lt hr.out hpre.out hbest.out.symm hq.out hcmp).symm⟩
              case measure => simp [intOf]; omega
    · obtain rfl : k = n := by omega
      cases hbb with
      | inl h =>
        obtain rfl : b = -1 := h
        go_wp2
        go_ret2
        exact ⟨by rw [hfin.out, ← hbest.out]; rfl, (by repeat (with_reducible first | exact Below.refl _ _ | refine bw_later ?_ _ | refine bw_alloc ?_ _ | refine bw_drew ?_))⟩
      | inr h =>
        obtain ⟨j, rfl, hj⟩ := h
        obtain ⟨q, hq0⟩ := hs.at_ (k := j) (by omega)
        obtain ⟨d0, d1, d2, d3, d4⟩ := hs.2.2 j q hq0
        have hq := Lib.hid hq0
        clear hq0
        go_wp2
        go_ret2
        exact ⟨by rw [hfin.out, ← hbest.out, bestOut_at hq.out]; rfl, (by repeat (with_reducible first | exact Below.refl _ _ | refine bw_later ?_ _ | refine bw_alloc ?_ _ | refine bw_drew ?_))⟩
theorem s_NextOut_any (g off n c : Nat) (xs : List R5) (m : Int) (w : World) (hs : SR5 w g off n xs) (hn : n ≤ 1048576) : Gv Try.prog 24 #[.slice (some ⟨g, off, none⟩) n c, .int .i64 m] w (.tuple #[.int .i64 (nextF xs m).1, .bool (nextF xs m).2]) := by
  unfold Gv
  have hl := Lib.hid hs.2.1
  cases hv : okList isCabin 12 xs
  · go_enter Try.func24, Try.ntmps24
    go_wp2_with (first | (go_at_call 42; (first | refine (l5Good_ok g off n c xs w hs hn).onL ?_ | refine (l5Good_ok g off n c xs w hs hn).on ?_); intro x) | (go_at_call 41; (first | refine (in_any _ _ _ _).onL ?_ | refine (in_any _ _ _ _).on ?_); intro x))
    go_ret2
    exact ⟨by simp [nextF, hv], (by repeat (with_reducible first | exact Below.refl _ _ | refine bw_later ?_ _ | refine bw_alloc ?_ _ | refine bw_drew ?_))⟩
  cases hi : inB m 1 16
  · go_enter Try.func24, Try.ntmps24
    go_wp2_with (first | (go_at_call 42; (first | refine (l5Good_ok g off n c xs w hs hn).onL ?_ | refine (l5Good_ok g off n c xs w hs hn).on ?_); intro x) | (go_at_call 41; (first | refine (in_any _ _ _ _).onL ?_ | refine (in_any _ _ _ _).on ?_); intro x))
    go_ret2
    exact ⟨by simp [nextF, hv, hi], (by repeat (with_reducible first | exact Below.refl _ _ | refine bw_later ?_ _ | refine bw_alloc ?_ _ | refine bw_drew ?_))⟩
  obtain ⟨hgood, h12⟩ := okList_t hv hs.2.1
  have hfin := Lib.hid (show nextF xs m = bestOut xs (fun q => q.a) (bestTo (fun r => (r.d == 0) && decide (m ≤ r.b)) (fun q => q.e) xs n) by simp [nextF, hv, hi, hs.2.1])
  clear hgood
  go_enter Try.func24, Try.ntmps24
  go_wp2_with (first | (go_at_call 42; (first | refine (l5Good_ok g off n c xs w hs hn).onL ?_ | refine (l5Good_ok g off n c xs w hs hn).on ?_); intro x) | (go_at_call 41; (first | refine (in_any _ _ _ _).onL ?_ | refine (in_any _ _ _ _).on ?_); intro x))
  clear hv hi
  go_loopw [6, 7] (fun t i wr => ∃ (k : Nat) (b : Int), Below w.heap.size w wr ∧ k ≤ n ∧ i = .int .i64 (k : Int) ∧ t = .int .i64 b ∧ (b = -1 ∨ ∃ j : Nat, b = (j : Int) ∧ j < k) ∧ Hid (b = bestTo (fun r => (r.d == 0) && decide (m ≤ r.b)) (fun q => q.e) xs k)) (fun _ i _ => n - (intOf i).toNat)
  case atStart => exact ⟨0, -1, (by repeat (with_reducible first | exact Below.refl _ _ | refine bw_later ?_ _ | refine bw_alloc ?_ _ | refine bw_drew ?_)), by omega, rfl, rfl, .inl rfl, rfl⟩
  case round =>
    obtain ⟨k, b, hbw, hk, rfl, rfl, hbb, hbest⟩ := hrel
    obtain ⟨y, rfl⟩ := exists_later hbw
    clear hbw
    have hg := hs.1
    by_cases hlt : k < n
    · obtain ⟨r, hr0⟩ := hs.at_ hlt
      obtain ⟨c0, c1, c2, c3, c4⟩ := hs.2.2 k r hr0
      have hr := Lib.hid hr0
      clear hr0
      cases p0 : (r.d == 0)
      · have hpre : Hid ((fun r => (r.d == 0) && decide (m ≤ r.b)) r = false) := by show (fun r => (r.d == 0) && decide (m ≤ r.b)) r = false; simp [p0]
        go_wp2_with ((with_reducible refine wp_region_later (by kernel_rfl) (by kernel_rfl) ?_); (repeat (go_big_quiet_step (fail))); refine wpQuiet_nil ?_; rintro _ ⟨xr, rfl⟩)
        go_roundw
        case rel => exact ⟨k + 1, b, (by repeat (with_reducible first | exact Below.refl _ _ | refine bw_later ?_ _ | refine bw_alloc ?_ _ | refine bw_drew ?_)), by omega, by go_num, rfl, hbb.imp id (fun ⟨j, h, hj⟩ => ⟨j, h, by omega⟩), hbest.out.trans (best_no hr.out hpre.out).symm⟩
        case measure => simp [intOf]; omega
      · cases p1 : decide (m ≤ r.b)
        · have hpre : Hid ((fun r => (r.d == 0) && decide (m ≤ r.b)) r = false) := by show (fun r => (r.d == 0) && decide (m ≤ r.b)) r = false; simp [p0, p1]
          go_wp2_with ((with_reducible refine wp_region_later (by kernel_rfl) (by kernel_rfl) ?_); (repeat (go_big_quiet_step (fail))); refine wpQuiet_nil ?_; rintro _ ⟨xr, rfl⟩)
          go_roundw
          case rel => exact ⟨k + 1, b, (by repeat (with_reducible first | exact Below.refl _ _ | refine bw_later ?_ _ | refine bw_alloc ?_ _ | refine bw_drew ?_)), by omega, by go_num, rfl, hbb.imp id (fun ⟨j, h, hj⟩ => ⟨j, h, by omega⟩), hbest.out.trans (best_no hr.out hpre.out).symm⟩
          case measure => simp [intOf]; omega
        · have hpre : Hid ((fun r => (r.d == 0) && decide (m ≤ r.b)) r = true) := by show (fun r => (r.d == 0) && decide (m ≤ r.b)) r = true; simp [p0, p1]
          cases hbb with
          | inl h =>
            obtain rfl : b = -1 := h
            go_wp2_with ((with_reducible refine wp_region_later (by kernel_rfl) (by kernel_rfl) ?_); (repeat (go_big_quiet_step (fail))); refine wpQuiet_nil ?_; rintro _ ⟨xr, rfl⟩)
            go_roundw
            case rel => exact ⟨k + 1, k, (by repeat (with_reducible first | exact Below.refl _ _ | refine bw_later ?_ _ | refine bw_alloc ?_ _ | refine bw_drew ?_)), by omega, by go_num, rfl, .inr ⟨k, rfl, by omega⟩, (best_first hr.out hpre.out hbest.out.symm).symm⟩
            case measure => simp [intOf]; omega
          | inr h =>
            obtain ⟨j, rfl, hj⟩ := h
            obtain ⟨q, hq0⟩ := hs.at_ (k := j) (by omega)
            obtain ⟨d0, d1, d2, d3, d4⟩ := hs.2.2 j q hq0
            have hq := Lib.hid hq0
            clear hq0
            have hj0 : decide ((j : Int) < 0) = false := by simp
            cases hcmp : decide (r.e < q.e)
            · go_wp2_with ((with_reducible refine wp_region_later (by kernel_rfl) (by kernel_rfl) ?_); (repeat (go_big_quiet_step (fail))); refine wpQuiet_nil ?_; rintro _ ⟨xr, rfl⟩)
              go_roundw
              case rel => exact ⟨k + 1, j, (by repeat (with_reducible first | exact Below.refl _ _ | refine bw_later ?_ _ | refine bw_alloc ?_ _ | refine bw_drew ?_)), by omega, by go_num, rfl, .inr ⟨j, rfl, by omega⟩, (best_ge hr.out hpre.out hbest.out.symm hq.out hcmp).symm⟩
              case measure => simp [intOf]; omega
            · go_wp2_with ((with_reducible refine wp_region_later (by kernel_rfl) (by kernel_rfl) ?_); (repeat (go_big_quiet_step (fail))); refine wpQuiet_nil ?_; rintro _ ⟨xr, rfl⟩)
              go_roundw
              case rel => exact ⟨k + 1, k, (by repeat (with_reducible first | exact Below.refl _ _ | refine bw_later ?_ _ | refine bw_alloc ?_ _ | refine bw_drew ?_)), by omega, by go_num, rfl, .inr ⟨k, rfl, by omega⟩, (best_lt hr.out hpre.out hbest.out.symm hq.out hcmp).symm⟩
              case measure => simp [intOf]; omega
    · obtain rfl : k = n := by omega
      cases hbb with
      | inl h =>
        obtain rfl : b = -1 := h
        go_wp2
        go_ret2
        exact ⟨by rw [hfin.out, ← hbest.out]; rfl, (by repeat (with_reducible first | exact Below.refl _ _ | refine bw_later ?_ _ | refine bw_alloc ?_ _ | refine bw_drew ?_))⟩
      | inr h =>
        obtain ⟨j, rfl, hj⟩ := h
        obtain ⟨q, hq0⟩ := hs.at_ (k := j) (by omega)
        obtain ⟨d0, d1, d2, d3, d4⟩ := hs.2.2 j q hq0
        have hq := Lib.hid hq0
        clear hq0
        go_wp2
        go_ret2
        exact ⟨by rw [hfin.out, ← hbest.out, bestOut_at hq.out]; rfl, (by repeat (with_reducible first | exact Below.refl _ _ | refine bw_later ?_ _ | refine bw_alloc ?_ _ | refine bw_drew ?_))⟩
theorem law_NextOut (A0 : Option Addr) (n0 c0 : Nat) (xs0 : List R5) (a1 : Int) (w : World) (rd0 : AR5 w A0 n0 xs0 ∧ n0 ≤ 9223372036854775807) (_ia1 : I64 a1) : Gv Try.prog 7 #[.slice A0 n0 c0, .int .i64 a1] w (.bool true) := by
  obtain ⟨ha0, hm0⟩ := rd0
  unfold Gv
  by_cases k0 : 1048576 < n0
  · have z0 : szF n0 ((1048576 : Int)) = -1 := by unfold szF; rw [if_pos (by omega)]
    go_enter Try.func7, Try.ntmps7
    go_wp2_with fail
    refine Calls.mono (szCabin_any A0 n0 c0 ((1048576 : Int)) hm0 (by omega) (by omega) _) ?_
    rintro _ w1 ⟨rfl, b1⟩
    have hw := b1
    rw [z0]
    clear z0
    go_wp2_with fail
    go_ret
    exact ⟨rfl, hw⟩
  · have hn0 : n0 ≤ 1048576 := by omega
    have z0 : szF n0 ((1048576 : Int)) = (1048576 : Int) - (n0 : Int) := by unfold szF; rw [if_neg (by omega)]
    go_enter Try.func7, Try.ntmps7
    go_wp2_with fail
    refine Calls.mono (szCabin_any A0 n0 c0 ((1048576 : Int)) hm0 (by omega) (by omega) _) ?_
    rintro _ w1 ⟨rfl, b1⟩
    replace ha0 := ha0.below2 b1
    have hw := b1
    rw [z0]
    clear z0
    go_wp2_with fail
    refine Calls.mono (toCabinS_any A0 n0 c0 xs0 _ ha0 hn0) ?_
    rintro _ w2 ⟨g2, rfl, q2, hB2, b2⟩
    replace ha0 := ha0.below2 b2
    replace hw := bw_trans hw b2
    go_wp2_with fail
    refine Calls.mono (s_NextOut_any g2 0 n0 n0 xs0 a1 _ hB2.reads hn0) ?_
    rintro _ w3 ⟨rfl, b3⟩
    replace ha0 := ha0.below2 b3
    replace hB2 := hB2.below2 b3
    replace hw := bw_trans hw b3
    go_wp2_with fail
    refine Calls.mono (toCabinS_any A0 n0 c0 xs0 _ ha0 hn0) ?_
    rintro _ w4 ⟨g4, rfl, q4, hB4, b4⟩
    replace ha0 := ha0.below2 b4
    replace hB2 := hB2.below2 b4
    replace hw := bw_trans hw b4
    go_wp2_with fail
    refine Calls.mono (i_NextOut_any g4 0 n0 n0 xs0 a1 _ hB4.reads hn0) ?_
    rintro _ w5 ⟨rfl, b5⟩
    replace ha0 := ha0.below2 b5
    replace hB2 := hB2.below2 b5
    replace hB4 := hB4.below2 b5
    replace hw := bw_trans hw b5
    go_wp2_with fail
    refine Calls.mono (toCabinS_any A0 n0 c0 xs0 _ ha0 hn0) ?_
    rintro _ w6 ⟨g6, rfl, q6, hB6, b6⟩
    replace ha0 := ha0.below2 b6
    replace hB2 := hB2.below2 b6
    replace hB4 := hB4.below2 b6
    replace hw := bw_trans hw b6
    go_wp2_with fail
    refine Calls.mono (eqCabinS_any _ _ n0 n0 n0 n0 xs0 xs0 _ (AR5.of hB4.reads) (AR5.of hB6.reads) hn0 hn0) ?_
    rintro _ w7 ⟨rfl, b7⟩
    replace ha0 := ha0.below2 b7
    replace hB2 := hB2.below2 b7
    replace hB4 := hB4.below2 b7
    replace hB6 := hB6.below2 b7
    replace hw := bw_trans hw b7
    go_wp2_with fail
    go_ret
    exact ⟨rfl, hw⟩
end Go.Proofs.Ytnemamokjikdeaa
