/- The stations of a line. -/
import Derived.Test.YtfhggmjmhfafcaaSpan
import Derived.Test.YtfhggmjmhfafcaaPush
import Derived.Test.YtfhggmjmhfafcaaMark
import Derived.Test.YtfhggmjmhfafcaaIdx
namespace Go.Proofs.Ytfhggmjmhfafcaa
open Go.RowKit
theorem infoInt : (Try.prog.info? 3).map (fun i => (i.zero, i.size, i.bytes)) = some (some (.int .i64 0), 1, 8) := by kernel_rfl
def isSt (s : Sup) : Bool := s.st
def stationsF (xs : List Sup) : List Int × Bool := if okLine xs then (idxTo isSt xs xs.length, true) else ([], false)
theorem i_StationsOf_any (g off n c : Nat) (xs : List Sup) (w : World) (hs : SSup w g off n xs) (hn : n ≤ 1048576) : GI Try.prog 27 #[.slice (some ⟨g, off, none⟩) n c] w (stationsF xs) := by
  unfold GI
  obtain ⟨i0, hi, hz0, hz1, hz2⟩ := info_parts infoInt
  have Hi := Lib.hid hi
  have Hz0 := Lib.hid hz0
  have Hz1 := Lib.hid hz1
  have Hz2 := Lib.hid hz2
  clear hi hz0 hz1 hz2
  cases h0 : okLine xs
  · have hfin := Lib.hid (show stationsF xs = ([], false) by simp [stationsF, h0])
    go_enter Try.func27, Try.ntmps27
    go_wp2_with (first | (go_at_call 14; (first | refine (impl_IsLine_any g off n c xs _ (by first | exact hs | exact hs.later _ | exact hs.alloc _ | exact (hs.alloc _).later _ | exact (hs.later _).alloc _ | exact ((hs.later _).alloc _).later _ | exact ((hs.alloc _).later _).alloc _) hn).onL ?_ | refine (impl_IsLine_any g off n c xs _ (by first | exact hs | exact hs.later _ | exact hs.alloc _ | exact (hs.alloc _).later _ | exact (hs.later _).alloc _ | exact ((hs.later _).alloc _).later _ | exact ((hs.alloc _).later _).alloc _) hn).on ?_); intro x))
    all_goals (go_ret2; rw [hfin.out]; exact IntsB.none_ (by repeat (with_reducible first | exact Below.refl _ _ | refine bw_later ?_ _ | refine bw_alloc ?_ _ | refine bw_drew ?_ | refine bw_set ?_ (Nat.le_refl _) _ | refine bw_set ?_ (by simp) _ | refine bw_set ?_ (by simp; omega) _)))
  have hfin := Lib.hid (show stationsF xs = (idxTo isSt xs n, true) by simp [stationsF, h0, hs.2.1])
  have hl := Lib.hid hs.2.1
  have hg := hs.1
  have h28 := (line_ok h0).len
  rw [hs.2.1] at h28
  go_enter Try.func27, Try.ntmps27
  go_wp2_with (first | (go_at_call 14; (first | refine (impl_IsLine_any g off n c xs _ (by first | exact hs | exact hs.later _ | exact hs.alloc _ | exact (hs.alloc _).later _ | exact (hs.later _).alloc _ | exact ((hs.later _).alloc _).later _ | exact ((hs.alloc _).later _).alloc _) hn).onL ?_ | refine (impl_IsLine_any g off n c xs _ (by first | exact hs | exact hs.later _ | exact hs.alloc _ | exact (hs.alloc _).later _ | exact (hs.later _).alloc _ | exact ((hs.later _).alloc _).later _ | exact ((hs.alloc _).later _).alloc _) hn).on ?_); intro x))
  clear h0
  go_loopw [4, 13] (fun t i wr => ∃ k : Nat, Below w.heap.size w wr ∧ k ≤ n ∧ i = .int .i64 (k : Int) ∧ wr.ownsRow w.heap.size 3 1 t (idxTo isSt xs k).length ((idxTo isSt xs k).map (Value.int .i64))) (fun _ i _ => n - (intOf i).toNat)
  case atStart => exact ⟨0, (by repeat (with_reducible first | exact Below.refl _ _ | refine bw_later ?_ _ | refine bw_alloc ?_ _ | refine bw_drew ?_ | refine bw_set ?_ (Nat.le_refl _) _ | refine bw_set ?_ (by simp) _ | refine bw_set ?_ (by simp; omega) _)), by omega, rfl, World.ownsRow_made _ #[] 0 (by first | exact (bw_later (Below.refl _ _) _).size | exact Nat.le_refl _) (by decide) rfl⟩
  case round =>
    obtain ⟨k, hbw, hk, rfl, hown⟩ := hrel
    obtain ⟨y, rfl⟩ := exists_later hbw
    clear hbw
    have hgy := lt_later _ y g hg
    have hpl := idx_len isSt xs k
    by_cases hlt : k < n
    · obtain ⟨r, hr0⟩ := hs.at_ hlt
      obtain ⟨c0, c1, c2⟩ := hs.2.2 k r hr0
      have hr := Lib.hid hr0
      clear hr0
      cases hd : r.st
      · rw [hd] at c2
        go_wp2
        go_roundw
        case rel => exact ⟨k + 1, (by repeat (with_reducible first | exact Below.refl _ _ | refine bw_later ?_ _ | refine bw_alloc ?_ _ | refine bw_drew ?_ | refine bw_set ?_ (Nat.le_refl _) _ | refine bw_set ?_ (by simp) _ | refine bw_set ?_ (by simp; omega) _)), by omega, by go_num, by rw [idx_no (p := isSt) hr.out hd]; first | exact hown | exact hown.alloc _⟩
        case measure => simp [intOf]; omega
      · rw [hd] at c2
        go_wp2_with (at_builtin; refine push_law rfl _ _ _ rfl i0 _ 1 8 Try.underlying34 Hi.out Hz0.out Hz1.out Hz2.out rfl (by decide) _ _ _ rfl (by first | exact hown | exact hown.alloc _) (by repeat (with_reducible first | exact Below.refl _ _ | refine bw_later ?_ _ | refine bw_alloc ?_ _ | refine bw_drew ?_ | refine bw_set ?_ (Nat.le_refl _) _ | refine bw_set ?_ (by simp) _ | refine bw_set ?_ (by simp; omega) _)) _ (by simp) rfl rfl (by simp [Value.oneCell']) (by omega) (by omega) ?_; intro v1 y1 hown1)
        go_roundw
        case rel => exact ⟨k + 1, (by repeat (with_reducible first | exact Below.refl _ _ | refine bw_later ?_ _ | refine bw_alloc ?_ _ | refine bw_drew ?_ | refine bw_set ?_ (Nat.le_refl _) _ | refine bw_set ?_ (by simp) _ | refine bw_set ?_ (by simp; omega) _)), by omega, by go_num, by rw [idx_yes (p := isSt) hr.out hd]; simpa using hown1⟩
        case measure => simp [intOf]; omega
    · obtain rfl : k = n := by omega
      go_wp2
      go_ret2
      rw [hfin.out]
      exact IntsB.some_ hown (by omega) (by repeat (with_reducible first | exact Below.refl _ _ | refine bw_later ?_ _ | refine bw_alloc ?_ _ | refine bw_drew ?_ | refine bw_set ?_ (Nat.le_refl _) _ | refine bw_set ?_ (by simp) _ | refine bw_set ?_ (by simp; omega) _))
theorem s_StationsOf_any (g off n c : Nat) (xs : List Sup) (w : World) (hs : SSup w g off n xs) (hn : n ≤ 1048576) : GI Try.prog 26 #[.slice (some ⟨g, off, none⟩) n c] w (stationsF xs) := by
  unfold GI
  obtain ⟨i0, hi, hz0, hz1, hz2⟩ := info_parts infoInt
  have Hi := Lib.hid hi
  have Hz0 := Lib.hid hz0
  have Hz1 := Lib.hid hz1
  have Hz2 := Lib.hid hz2
  clear hi hz0 hz1 hz2
  cases h0 : okLine xs
  · have hfin := Lib.hid (show stationsF xs = ([], false) by simp [stationsF, h0])
    go_enter Try.func26, Try.ntmps26
    go_wp2_with (first | (go_at_call 35; (first | refine (l2Line_any g off n c xs _ (by first | exact hs | exact hs.later _ | exact hs.alloc _ | exact (hs.alloc _).later _ | exact (hs.later _).alloc _ | exact ((hs.later _).alloc _).later _ | exact ((hs.alloc _).later _).alloc _) hn).onL ?_ | refine (l2Line_any g off n c xs _ (by first | exact hs | exact hs.later _ | exact hs.alloc _ | exact (hs.alloc _).later _ | exact (hs.later _).alloc _ | exact ((hs.later _).alloc _).later _ | exact ((hs.alloc _).later _).alloc _) hn).on ?_); intro x))
    all_goals (go_ret2; rw [hfin.out]; exact IntsB.none_ (by repeat (with_reducible first | exact Below.refl _ _ | refine bw_later ?_ _ | refine bw_alloc ?_ _ | refine bw_drew ?_ | refine bw_set ?_ (Nat.le_refl _) _ | refine bw_set ?_ (by simp) _ | refine bw_set ?_ (by simp; omega) _)))
  have hfin := Lib.hid (show stationsF xs = (idxTo isSt xs n, true) by simp [stationsF, h0, hs.2.1])
  have hl := Lib.hid hs.2.1
  have hg := hs.1
  have h28 := (line_ok h0).len
  rw [hs.2.1] at h28
  go_enter Try.func26, Try.ntmps26
  go_wp2_with (first | (go_at_call 35; (first | refine (l2Line_any g off n c xs _ (by first | exact hs | exact hs.later _ | exact hs.alloc _ | exact (hs.alloc _).later _ | exact (hs.later _).alloc _ | exact ((hs.later _).alloc _).later _ | exact ((hs.alloc _).later _).alloc _) hn).onL ?_ | refine (l2Line_any g off n c xs _ (by first | exact hs | exact hs.later _ | exact hs.alloc _ | exact (hs.alloc _).later _ | exact (hs.later _).alloc _ | exact ((hs.later _).alloc _).later _ | exact ((hs.alloc _).later _).alloc _) hn).on ?_); intro x))
  clear h0
  go_loopw [4, 5] (fun t i wr => ∃ k : Nat, Below w.heap.size w wr ∧ k ≤ n ∧ i = .int .i64 (k : Int) ∧ wr.ownsRow w.heap.size 3 1 t (idxTo isSt xs k).length ((idxTo isSt xs k).map (Value.int .i64))) (fun _ i _ => n - (intOf i).toNat)
  case atStart => exact ⟨0, (by repeat (with_reducible first | exact Below.refl _ _ | refine bw_later ?_ _ | refine bw_alloc ?_ _ | refine bw_drew ?_ | refine bw_set ?_ (Nat.le_refl _) _ | refine bw_set ?_ (by simp) _ | refine bw_set ?_ (by simp; omega) _)), by omega, rfl, (World.ownsRow_made w #[] 0 (Nat.le_refl _) (by decide) rfl).kept (grown_later _ _ none) (by simp [Value.ownBlock])⟩
  case round =>
    obtain ⟨k, hbw, hk, rfl, hown⟩ := hrel
    obtain ⟨y, rfl⟩ := exists_later hbw
    clear hbw
    have hgy := lt_later _ y g hg
    have hpl := idx_len isSt xs k
    by_cases hlt : k < n
    · obtain ⟨r, hr0⟩ := hs.at_ hlt
      obtain ⟨c0, c1, c2⟩ := hs.2.2 k r hr0
      have hr := Lib.hid hr0
      clear hr0
      cases hd : r.st
      · rw [hd] at c2
        go_wp2
        go_roundw
        case rel => exact ⟨k + 1, (by repeat (with_reducible first | exact Below.refl _ _ | refine bw_later ?_ _ | refine bw_alloc ?_ _ | refine bw_drew ?_ | refine bw_set ?_ (Nat.le_refl _) _ | refine bw_set ?_ (by simp) _ | refine bw_set ?_ (by simp; omega) _)), by omega, by go_num, by rw [idx_no (p := isSt) hr.out hd]; first | exact hown | exact hown.alloc _⟩
        case measure => simp [intOf]; omega
      · rw [hd] at c2
        go_wp2_with (at_builtin; refine push_law rfl _ _ _ rfl i0 _ 1 8 Try.underlying34 Hi.out Hz0.out Hz1.out Hz2.out rfl (by decide) _ _ _ rfl (by first | exact hown | exact hown.alloc _) (by repeat (with_reducible first | exact Below.refl _ _ | refine bw_later ?_ _ | refine bw_alloc ?_ _ | refine bw_drew ?_ | refine bw_set ?_ (Nat.le_refl _) _ | refine bw_set ?_ (by simp) _ | refine bw_set ?_ (by simp; omega) _)) _ (by simp) rfl rfl (by simp [Value.oneCell']) (by omega) (by omega) ?_; intro v1 y1 hown1)
        go_roundw
        case rel => exact ⟨k + 1, (by repeat (with_reducible first | exact Below.refl _ _ | refine bw_later ?_ _ | refine bw_alloc ?_ _ | refine bw_drew ?_ | refine bw_set ?_ (Nat.le_refl _) _ | refine bw_set ?_ (by simp) _ | refine bw_set ?_ (by simp; omega) _)), by omega, by go_num, by rw [idx_yes (p := isSt) hr.out hd]; simpa using hown1⟩
        case measure => simp [intOf]; omega
    · obtain rfl : k = n := by omega
      go_wp2
      go_ret2
      rw [hfin.out]
      exact IntsB.some_ hown (by omega) (by repeat (with_reducible first | exact Below.refl _ _ | refine bw_later ?_ _ | refine bw_alloc ?_ _ | refine bw_drew ?_ | refine bw_set ?_ (Nat.le_refl _) _ | refine bw_set ?_ (by simp) _ | refine bw_set ?_ (by simp; omega) _))
theorem law_StationsOf (A0 : Option Addr) (n0 c0 : Nat) (xs0 : List Sup) (w : World) (rd0 : ASup w A0 n0 xs0 ∧ n0 ≤ 9223372036854775807) : Gv Try.prog 7 #[.slice A0 n0 c0] w (.bool true) := by
  obtain ⟨ha0, hm0⟩ := rd0
  unfold Gv
  by_cases k0 : 1048576 < n0
  · have zz0 : szF n0 ((1048576 : Int)) = -1 := by unfold szF; rw [if_pos (by omega)]
    go_enter Try.func7, Try.ntmps7
    have hw : Below w.heap.size w w := Below.refl _ _
    go_wp2_with fail
    refine Calls.mono (szSupport_any A0 n0 c0 ((1048576 : Int)) hm0 (by omega) (by omega) _) ?_
    rintro _ w1 ⟨rfl, b1⟩
    replace hw := bw_trans hw b1
    have z1 := b1.size
    rw [zz0]
    clear zz0
    go_wp2_with fail
    go_ret
    exact ⟨rfl, hw⟩
  · have hn0 : n0 ≤ 1048576 := by omega
    have zz0 : szF n0 ((1048576 : Int)) = (1048576 : Int) - (n0 : Int) := by unfold szF; rw [if_neg (by omega)]
    go_enter Try.func7, Try.ntmps7
    have hw : Below w.heap.size w w := Below.refl _ _
    go_wp2_with fail
    refine Calls.mono (szSupport_any A0 n0 c0 ((1048576 : Int)) hm0 (by omega) (by omega) _) ?_
    rintro _ w1 ⟨rfl, b1⟩
    replace hw := bw_trans hw b1
    have z1 := b1.size
    rw [zz0]
    clear zz0
    go_wp2_with fail
    refine Calls.mono (toSupportS_any A0 n0 c0 xs0 _ (ha0.below2 hw) hn0) ?_
    rintro _ w2 ⟨g2, rfl, q2, hB2, b2⟩
    replace hw := bw_trans hw b2
    have z2 := b2.size
    have u2 := hB2.lt
    have hO2 := hB2.own q2 u2
    go_wp2_with fail
    refine Calls.mono (s_StationsOf_any g2 0 n0 n0 xs0 _ hB2.reads hn0) ?_
    rintro _ w3 ⟨Ar3, m3, d3, rfl, hO3, l3, b3⟩
    replace hO2 := hO2.below2 b3
    replace hw := bw_trans hw b3
    have z3 := b3.size
    replace hB2 := hB2.below2 b3
    go_wp2_with fail
    refine Calls.mono (toSupportS_any A0 n0 c0 xs0 _ (ha0.below2 hw) hn0) ?_
    rintro _ w4 ⟨g4, rfl, q4, hB4, b4⟩
    replace hO3 := hO3.below2 b4
    replace hw := bw_trans hw b4
    have z4 := b4.size
    have u4 := hB4.lt
    have hO4 := hB4.own q4 u4
    go_wp2_with fail
    refine Calls.mono (i_StationsOf_any g4 0 n0 n0 xs0 _ hB4.reads hn0) ?_
    rintro _ w5 ⟨Ar5, m5, d5, rfl, hO5, l5, b5⟩
    replace hO3 := hO3.below2 b5
    replace hO4 := hO4.below2 b5
    replace hw := bw_trans hw b5
    have z5 := b5.size
    replace hB4 := hB4.below2 b5
    go_wp2_with fail
    refine Calls.mono (eqIntS_any _ _ m5 m3 d5 d3 _ _ _ hO5.reads hO3.reads l5 l3) ?_
    rintro _ w6 ⟨rfl, b6⟩
    replace hO3 := hO3.below2 b6
    replace hO4 := hO4.below2 b6
    replace hO5 := hO5.below2 b6
    replace hw := bw_trans hw b6
    have z6 := b6.size
    go_wp2_with fail
    refine Calls.mono (toSupportS_any A0 n0 c0 xs0 _ (ha0.below2 hw) hn0) ?_
    rintro _ w7 ⟨g7, rfl, q7, hB7, b7⟩
    replace hO3 := hO3.below2 b7
    replace hO4 := hO4.below2 b7
    replace hO5 := hO5.below2 b7
    replace hw := bw_trans hw b7
    have z7 := b7.size
    have u7 := hB7.lt
    have hO7 := hB7.own q7 u7
    go_wp2_with fail
    refine Calls.mono (eqSupportS_any _ _ n0 n0 n0 n0 xs0 xs0 _ hO4.reads hO7.reads hn0 hn0) ?_
    rintro _ w8 ⟨rfl, b8⟩
    replace hO3 := hO3.below2 b8
    replace hO4 := hO4.below2 b8
    replace hO5 := hO5.below2 b8
    replace hO7 := hO7.below2 b8
    replace hw := bw_trans hw b8
    have z8 := b8.size
    go_wp2_with fail
    refine Calls.mono (markSupportS_any _ _ _ n0 n0 1 _ _ hO4 hn0 (by omega) (by omega)) ?_
    rintro _ w9 ⟨rfl, hO4, t9⟩
    replace hO3 := hO3.tch t9 (by omega) (by omega)
    replace hO5 := hO5.tch t9 (by omega) (by omega)
    replace hw := hw.trans (t9.below (B := w.heap.size) (by omega) (by omega))
    have z9 := t9.size
    go_wp2_with fail
    refine Calls.mono (eqIntS_any _ _ m5 m3 d5 d3 _ _ _ hO5.reads hO3.reads l5 l3) ?_
    rintro _ w10 ⟨rfl, b10⟩
    replace hO3 := hO3.below2 b10
    replace hO5 := hO5.below2 b10
    replace hw := bw_trans hw b10
    have z10 := b10.size
    go_wp2_with fail
    refine Calls.mono (markIntS_any _ _ _ m5 d5 1 _ _ hO5 l5 (by omega) (by omega)) ?_
    rintro _ w11 ⟨rfl, hO5, t11⟩
    replace hO3 := hO3.tch t11 (by omega) (by omega)
    replace hw := hw.trans (t11.below (B := w.heap.size) (by omega) (by omega))
    have z11 := t11.size
    go_wp2_with fail
    refine Calls.mono (heldIntS_any _ m5 d5 1 _ hO5.reads l5 (by omega) (by omega)) ?_
    rintro _ w12 ⟨rfl, b12⟩
    replace hO3 := hO3.below2 b12
    replace hO5 := hO5.below2 b12
    replace hw := bw_trans hw b12
    have z12 := b12.size
    go_wp2_with fail
    refine Calls.mono (toSupportS_any A0 n0 c0 xs0 _ (ha0.below2 hw) hn0) ?_
    rintro _ w13 ⟨g13, rfl, q13, hB13, b13⟩
    replace hO3 := hO3.below2 b13
    replace hO5 := hO5.below2 b13
    replace hw := bw_trans hw b13
    have z13 := b13.size
    have u13 := hB13.lt
    have hO13 := hB13.own q13 u13
    go_wp2_with fail
    refine Calls.mono (i_StationsOf_any g13 0 n0 n0 xs0 _ hB13.reads hn0) ?_
    rintro _ w14 ⟨Ar14, m14, d14, rfl, hO14, l14, b14⟩
    replace hO3 := hO3.below2 b14
    replace hO5 := hO5.below2 b14
    replace hO13 := hO13.below2 b14
    replace hw := bw_trans hw b14
    have z14 := b14.size
    replace hB13 := hB13.below2 b14
    go_wp2_with fail
    refine Calls.mono (eqIntS_any _ _ m14 m3 d14 d3 _ _ _ hO14.reads hO3.reads l14 l3) ?_
    rintro _ w15 ⟨rfl, b15⟩
    replace hO3 := hO3.below2 b15
    replace hO5 := hO5.below2 b15
    replace hO14 := hO14.below2 b15
    replace hw := bw_trans hw b15
    have z15 := b15.size
    go_wp2_with fail
    refine Calls.mono (heldIntS_any _ m5 d5 1 _ hO5.reads l5 (by omega) (by omega)) ?_
    rintro _ w16 ⟨rfl, b16⟩
    replace hO3 := hO3.below2 b16
    replace hO5 := hO5.below2 b16
    replace hO14 := hO14.below2 b16
    replace hw := bw_trans hw b16
    have z16 := b16.size
    go_wp2_with fail
    go_ret
    exact ⟨rfl, hw⟩
end Go.Proofs.Ytfhggmjmhfafcaa
