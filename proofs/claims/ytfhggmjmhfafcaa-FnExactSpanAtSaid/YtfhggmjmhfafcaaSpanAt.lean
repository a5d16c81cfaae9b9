/- The law on the span with a place. -/
import Derived.Test.YtfhggmjmhfafcaaSpan
namespace Go.Proofs.Ytfhggmjmhfafcaa
open Go.RowKit
def spanAtF (xs : List Sup) (p : Int) : Int × Bool := if onLine xs p then ((spanF xs p : Int), true) else (0, false)
theorem i_SpanAt_any (g off n c : Nat) (xs : List Sup) (p : Int) (w : World) (hs : SSup w g off n xs) (hn : n ≤ 1048576) : Gv Try.prog 19 #[.slice (some ⟨g, off, none⟩) n c, .int .i64 p] w (.tuple #[.int .i64 ((spanAtF xs p)).1, .bool ((spanAtF xs p)).2]) := by
  unfold Gv
  cases h0 : onLine xs p
  · have hfin := Lib.hid (show spanAtF xs p = (0, false) by simp [spanAtF, h0])
    go_enter Try.func19, Try.ntmps19
    go_wp2_with (first | (go_at_call 42; (first | refine (i_on_any g off n c xs p _ (by first | exact hs | exact hs.later _ | exact hs.alloc _ | exact (hs.alloc _).later _ | exact (hs.later _).alloc _ | exact ((hs.later _).alloc _).later _ | exact ((hs.alloc _).later _).alloc _) hn).onL ?_ | refine (i_on_any g off n c xs p _ (by first | exact hs | exact hs.later _ | exact hs.alloc _ | exact (hs.alloc _).later _ | exact (hs.later _).alloc _ | exact ((hs.later _).alloc _).later _ | exact ((hs.alloc _).later _).alloc _) hn).on ?_); intro x) | (go_at_call 43; (first | refine (i_span_any g off n c xs p _ (by first | exact hs | exact hs.later _ | exact hs.alloc _ | exact (hs.alloc _).later _ | exact (hs.later _).alloc _ | exact ((hs.later _).alloc _).later _ | exact ((hs.alloc _).later _).alloc _) hn h0).onL ?_ | refine (i_span_any g off n c xs p _ (by first | exact hs | exact hs.later _ | exact hs.alloc _ | exact (hs.alloc _).later _ | exact (hs.later _).alloc _ | exact ((hs.later _).alloc _).later _ | exact ((hs.alloc _).later _).alloc _) hn h0).on ?_); intro x))
    all_goals (go_ret2; exact ⟨by rw [hfin.out]; try rfl, (by repeat (with_reducible first | exact Below.refl _ _ | refine bw_later ?_ _ | refine bw_alloc ?_ _ | refine bw_drew ?_ | refine bw_set ?_ (Nat.le_refl _) _ | refine bw_set ?_ (by simp) _ | refine bw_set ?_ (by simp; omega) _))⟩)
  have hfin := Lib.hid (show spanAtF xs p = ((spanF xs p : Int), true) by simp [spanAtF, h0])
  go_enter Try.func19, Try.ntmps19
  go_wp2_with (first | (go_at_call 42; (first | refine (i_on_any g off n c xs p _ (by first | exact hs | exact hs.later _ | exact hs.alloc _ | exact (hs.alloc _).later _ | exact (hs.later _).alloc _ | exact ((hs.later _).alloc _).later _ | exact ((hs.alloc _).later _).alloc _) hn).onL ?_ | refine (i_on_any g off n c xs p _ (by first | exact hs | exact hs.later _ | exact hs.alloc _ | exact (hs.alloc _).later _ | exact (hs.later _).alloc _ | exact ((hs.later _).alloc _).later _ | exact ((hs.alloc _).later _).alloc _) hn).on ?_); intro x) | (go_at_call 43; (first | refine (i_span_any g off n c xs p _ (by first | exact hs | exact hs.later _ | exact hs.alloc _ | exact (hs.alloc _).later _ | exact (hs.later _).alloc _ | exact ((hs.later _).alloc _).later _ | exact ((hs.alloc _).later _).alloc _) hn h0).onL ?_ | refine (i_span_any g off n c xs p _ (by first | exact hs | exact hs.later _ | exact hs.alloc _ | exact (hs.alloc _).later _ | exact (hs.later _).alloc _ | exact ((hs.later _).alloc _).later _ | exact ((hs.alloc _).later _).alloc _) hn h0).on ?_); intro x))
  all_goals (go_ret2; exact ⟨by rw [hfin.out]; try rfl, (by repeat (with_reducible first | exact Below.refl _ _ | refine bw_later ?_ _ | refine bw_alloc ?_ _ | refine bw_drew ?_ | refine bw_set ?_ (Nat.le_refl _) _ | refine bw_set ?_ (by simp) _ | refine bw_set ?_ (by simp; omega) _))⟩)
theorem s_SpanAt_any (g off n c : Nat) (xs : List Sup) (p : Int) (w : World) (hs : SSup w g off n xs) (hn : n ≤ 1048576) : Gv Try.prog 18 #[.slice (some ⟨g, off, none⟩) n c, .int .i64 p] w (.tuple #[.int .i64 ((spanAtF xs p)).1, .bool ((spanAtF xs p)).2]) := by
  unfold Gv
  cases h0 : onLine xs p
  · have hfin := Lib.hid (show spanAtF xs p = (0, false) by simp [spanAtF, h0])
    go_enter Try.func18, Try.ntmps18
    go_wp2_with (first | (go_at_call 40; (first | refine (s_on_any g off n c xs p _ (by first | exact hs | exact hs.later _ | exact hs.alloc _ | exact (hs.alloc _).later _ | exact (hs.later _).alloc _ | exact ((hs.later _).alloc _).later _ | exact ((hs.alloc _).later _).alloc _) hn).onL ?_ | refine (s_on_any g off n c xs p _ (by first | exact hs | exact hs.later _ | exact hs.alloc _ | exact (hs.alloc _).later _ | exact (hs.later _).alloc _ | exact ((hs.later _).alloc _).later _ | exact ((hs.alloc _).later _).alloc _) hn).on ?_); intro x) | (go_at_call 41; (first | refine (s_span_any g off n c xs p _ (by first | exact hs | exact hs.later _ | exact hs.alloc _ | exact (hs.alloc _).later _ | exact (hs.later _).alloc _ | exact ((hs.later _).alloc _).later _ | exact ((hs.alloc _).later _).alloc _) hn h0).onL ?_ | refine (s_span_any g off n c xs p _ (by first | exact hs | exact hs.later _ | exact hs.alloc _ | exact (hs.alloc _).later _ | exact (hs.later _).alloc _ | exact ((hs.later _).alloc _).later _ | exact ((hs.alloc _).later _).alloc _) hn h0).on ?_); intro x))
    all_goals (go_ret2; exact ⟨by rw [hfin.out]; try rfl, (by repeat (with_reducible first | exact Below.refl _ _ | refine bw_later ?_ _ | refine bw_alloc ?_ _ | refine bw_drew ?_ | refine bw_set ?_ (Nat.le_refl _) _ | refine bw_set ?_ (by simp) _ | refine bw_set ?_ (by simp; omega) _))⟩)
  have hfin := Lib.hid (show spanAtF xs p = ((spanF xs p : Int), true) by simp [spanAtF, h0])
  go_enter Try.func18, Try.ntmps18
  go_wp2_with (first | (go_at_call 40; (first | refine (s_on_any g off n c xs p _ (by first | exact hs | exact hs.later _ | exact hs.alloc _ | exact (hs.alloc _).later _ | exact (hs.later _).alloc _ | exact ((hs.later _).alloc _).later _ | exact ((hs.alloc _).later _).alloc _) hn).onL ?_ | refine (s_on_any g off n c xs p _ (by first | exact hs | exact hs.later _ | exact hs.alloc _ | exact (hs.alloc _).later _ | exact (hs.later _).alloc _ | exact ((hs.later _).alloc _).later _ | exact ((hs.alloc _).later _).alloc _) hn).on ?_); intro x) | (go_at_call 41; (first | refine (s_span_any g off n c xs p _ (by first | exact hs | exact hs.later _ | exact hs.alloc _ | exact (hs.alloc _).later _ | exact (hs.later _).alloc _ | exact ((hs.later _).alloc _).later _ | exact ((hs.alloc _).later _).alloc _) hn h0).onL ?_ | refine (s_span_any g off n c xs p _ (by first | exact hs | exact hs.later _ | exact hs.alloc _ | exact (hs.alloc _).later _ | exact (hs.later _).alloc _ | exact ((hs.later _).alloc _).later _ | exact ((hs.alloc _).later _).alloc _) hn h0).on ?_); intro x))
  all_goals (go_ret2; exact ⟨by rw [hfin.out]; try rfl, (by repeat (with_reducible first | exact Below.refl _ _ | refine bw_later ?_ _ | refine bw_alloc ?_ _ | refine bw_drew ?_ | refine bw_set ?_ (Nat.le_refl _) _ | refine bw_set ?_ (by simp) _ | refine bw_set ?_ (by simp; omega) _))⟩)
theorem law_SpanAt (A0 : Option Addr) (n0 c0 : Nat) (xs0 : List Sup) (a1 : Int) (w : World) (rd0 : ASup w A0 n0 xs0 ∧ n0 ≤ 9223372036854775807) (_ia1 : I64 a1) : Gv Try.prog 5 #[.slice A0 n0 c0, .int .i64 a1] w (.bool true) := by
  obtain ⟨ha0, hm0⟩ := rd0
  unfold Gv
  by_cases k0 : 1048576 < n0
  · have z0 : szF n0 ((1048576 : Int)) = -1 := by unfold szF; rw [if_pos (by omega)]
    go_enter Try.func5, Try.ntmps5
    go_wp2_with fail
    refine Calls.mono (szSupport_any A0 n0 c0 ((1048576 : Int)) hm0 (by omega) (by omega) _) ?_
    rintro _ w1 ⟨rfl, b1⟩
    have hw := b1
    rw [z0]
    clear z0
    go_wp2_with fail
    go_ret
    exact ⟨rfl, hw⟩
  · have hn0 : n0 ≤ 1048576 := by omega
    have z0 : szF n0 ((1048576 : Int)) = (1048576 : Int) - (n0 : Int) := by unfold szF; rw [if_neg (by omega)]
    go_enter Try.func5, Try.ntmps5
    go_wp2_with fail
    refine Calls.mono (szSupport_any A0 n0 c0 ((1048576 : Int)) hm0 (by omega) (by omega) _) ?_
    rintro _ w1 ⟨rfl, b1⟩
    replace ha0 := ha0.below2 b1
    have hw := b1
    rw [z0]
    clear z0
    go_wp2_with fail
    refine Calls.mono (toSupportS_any A0 n0 c0 xs0 _ ha0 hn0) ?_
    rintro _ w2 ⟨g2, rfl, q2, hB2, b2⟩
    replace ha0 := ha0.below2 b2
    replace hw := bw_trans hw b2
    go_wp2_with fail
    refine Calls.mono (s_SpanAt_any g2 0 n0 n0 xs0 a1 _ hB2.reads hn0) ?_
    rintro _ w3 ⟨rfl, b3⟩
    replace ha0 := ha0.below2 b3
    replace hB2 := hB2.below2 b3
    replace hw := bw_trans hw b3
    go_wp2_with fail
    refine Calls.mono (toSupportS_any A0 n0 c0 xs0 _ ha0 hn0) ?_
    rintro _ w4 ⟨g4, rfl, q4, hB4, b4⟩
    replace ha0 := ha0.below2 b4
    replace hB2 := hB2.below2 b4
    replace hw := bw_trans hw b4
    go_wp2_with fail
    refine Calls.mono (i_SpanAt_any g4 0 n0 n0 xs0 a1 _ hB4.reads hn0) ?_
    rintro _ w5 ⟨rfl, b5⟩
    replace ha0 := ha0.below2 b5
    replace hB2 := hB2.below2 b5
    replace hB4 := hB4.below2 b5
    replace hw := bw_trans hw b5
    go_wp2_with fail
    refine Calls.mono (toSupportS_any A0 n0 c0 xs0 _ ha0 hn0) ?_
    rintro _ w6 ⟨g6, rfl, q6, hB6, b6⟩
    replace ha0 := ha0.below2 b6
    replace hB2 := hB2.below2 b6
    replace hB4 := hB4.below2 b6
    replace hw := bw_trans hw b6
    go_wp2_with fail
    refine Calls.mono (eqSupportS_any _ _ n0 n0 n0 n0 xs0 xs0 _ (ASup.of hB4.reads) (ASup.of hB6.reads) hn0 hn0) ?_
    rintro _ w7 ⟨rfl, b7⟩
    replace ha0 := ha0.below2 b7
    replace hB2 := hB2.below2 b7
    replace hB4 := hB4.below2 b7
    replace hB6 := hB6.below2 b7
    replace hw := bw_trans hw b7
    go_wp2_with fail
    go_ret
    exact ⟨rfl, hw⟩
end Go.Proofs.Ytfhggmjmhfafcaa
