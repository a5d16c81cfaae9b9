/- The law on lists of damages. -/
import Derived.Test.YtagplkdeallbmaaDamageSpec
namespace Go.Proofs.Ytagplkdeallbmaa
open Go.RowKit
theorem spec_AreDamages_any (k : R5) (g off n c : Nat) (xs : List R3) (w : World) (hs : SR3 w g off n xs) (hn : n ≤ 1048576) : Gv Try.prog 26 #[k.v, .slice (some ⟨g, off, none⟩) n c] w (.bool (okDam k xs)) := by
  unfold Gv R5.v
  go_enter Try.func26, Try.ntmps26
  go_wp2_with (go_at_call 48; refine (l3Good_any k g off n c xs _ (hs.alloc _) hn).on ?_; intro x)
  go_ret
  exact ⟨rfl, (by repeat (with_reducible first | exact Below.refl _ _ | refine bw_later ?_ _ | refine bw_alloc ?_ _ | refine bw_drew ?_ | refine bw_set ?_ (Nat.le_refl _) _ | refine bw_set ?_ ?_ _ | exact Nat.le_refl _ | exact later_size _ _ | refine Nat.le_trans ?_ (later_size _ _) | refine Nat.le_trans ?_ (size_alloc_le _ _) | refine Nat.le_trans ?_ (Nat.le_add_right _ _)))⟩
theorem law_AreDamages (r0 : R5) (A1 : Option Addr) (n1 c1 : Nat) (xs1 : List R3) (w : World) (rd1 : AR3 w A1 n1 xs1 ∧ n1 ≤ 9223372036854775807) : Gv Try.prog 7 #[r0.v, .slice A1 n1 c1] w (.bool true) := by
  obtain ⟨ha1, hm1⟩ := rd1
  replace ha1 := ha1.below2 (w' := (w.alloc (.cells #[.int .i64 r0.a, .int .i64 r0.b, .int .i64 r0.c, .int .i64 r0.d, .int .i64 r0.e] 23))) (bw_alloc (Below.refl _ _) _)
  unfold Gv
  unfold R5.v
  by_cases k1 : 1048576 < n1
  · have z1 : szF n1 ((1048576 : Int)) = -1 := by unfold szF; rw [if_pos (by omega)]
    go_enter Try.func7, Try.ntmps7
    go_wp2_with fail
    refine Calls.mono (szDamage_any A1 n1 c1 ((1048576 : Int)) hm1 (by omega) (by omega) _) ?_
    rintro _ w1 ⟨rfl, b1⟩
    have hw := b1
    rw [z1]
    clear z1
    go_wp2_with fail
    go_ret
    exact ⟨rfl, bw_trans (bw_alloc (Below.refl _ _) _) hw⟩
  · have hn1 : n1 ≤ 1048576 := by omega
    have z1 : szF n1 ((1048576 : Int)) = (1048576 : Int) - (n1 : Int) := by unfold szF; rw [if_neg (by omega)]
    go_enter Try.func7, Try.ntmps7
    go_wp2_with fail
    refine Calls.mono (szDamage_any A1 n1 c1 ((1048576 : Int)) hm1 (by omega) (by omega) _) ?_
    rintro _ w1 ⟨rfl, b1⟩
    replace ha1 := ha1.below2 b1
    have hw := b1
    rw [z1]
    clear z1
    have e0 : w1.cell? ⟨w.heap.size, 0, none⟩ = some (.int .i64 r0.a) := (hw.cell (p := ⟨_, _, none⟩) (by simp)).trans (by simp [go_sem])
    have e1 : w1.cell? ⟨w.heap.size, 1, none⟩ = some (.int .i64 r0.b) := (hw.cell (p := ⟨_, _, none⟩) (by simp)).trans (by simp [go_sem])
    have e2 : w1.cell? ⟨w.heap.size, 2, none⟩ = some (.int .i64 r0.c) := (hw.cell (p := ⟨_, _, none⟩) (by simp)).trans (by simp [go_sem])
    have e3 : w1.cell? ⟨w.heap.size, 3, none⟩ = some (.int .i64 r0.d) := (hw.cell (p := ⟨_, _, none⟩) (by simp)).trans (by simp [go_sem])
    have e4 : w1.cell? ⟨w.heap.size, 4, none⟩ = some (.int .i64 r0.e) := (hw.cell (p := ⟨_, _, none⟩) (by simp)).trans (by simp [go_sem])
    go_wp2_with fail
    refine Calls.mono (toRopeKind_any r0 _) ?_
    rintro _ w2 ⟨rfl, b2⟩
    replace ha1 := ha1.below2 b2
    replace hw := bw_trans hw b2
    unfold R5.v
    clear e0 e1 e2 e3 e4
    go_wp2_with fail
    refine Calls.mono (toDamageS_any A1 n1 c1 xs1 _ ha1 hn1) ?_
    rintro _ w3 ⟨g3, rfl, q3, hB3, b3⟩
    replace ha1 := ha1.below2 b3
    replace hw := bw_trans hw b3
    go_wp2_with fail
    refine Calls.mono (spec_AreDamages_any r0 g3 0 n1 n1 xs1 _ hB3.reads hn1) ?_
    rintro _ w4 ⟨rfl, b4⟩
    replace ha1 := ha1.below2 b4
    replace hB3 := hB3.below2 b4
    replace hw := bw_trans hw b4
    go_wp2_with fail
    refine Calls.mono (toDamageS_any A1 n1 c1 xs1 _ ha1 hn1) ?_
    rintro _ w5 ⟨g5, rfl, q5, hB5, b5⟩
    replace ha1 := ha1.below2 b5
    replace hB3 := hB3.below2 b5
    replace hw := bw_trans hw b5
    have e0 : w5.cell? ⟨w.heap.size, 0, none⟩ = some (.int .i64 r0.a) := (hw.cell (p := ⟨_, _, none⟩) (by simp)).trans (by simp [go_sem])
    have e1 : w5.cell? ⟨w.heap.size, 1, none⟩ = some (.int .i64 r0.b) := (hw.cell (p := ⟨_, _, none⟩) (by simp)).trans (by simp [go_sem])
    have e2 : w5.cell? ⟨w.heap.size, 2, none⟩ = some (.int .i64 r0.c) := (hw.cell (p := ⟨_, _, none⟩) (by simp)).trans (by simp [go_sem])
    have e3 : w5.cell? ⟨w.heap.size, 3, none⟩ = some (.int .i64 r0.d) := (hw.cell (p := ⟨_, _, none⟩) (by simp)).trans (by simp [go_sem])
    have e4 : w5.cell? ⟨w.heap.size, 4, none⟩ = some (.int .i64 r0.e) := (hw.cell (p := ⟨_, _, none⟩) (by simp)).trans (by simp [go_sem])
    go_wp2_with fail
    refine Calls.mono (toRopeKind_any r0 _) ?_
    rintro _ w6 ⟨rfl, b6⟩
    replace ha1 := ha1.below2 b6
    replace hB3 := hB3.below2 b6
    replace hB5 := hB5.below2 b6
    replace hw := bw_trans hw b6
    unfold R5.v
    clear e0 e1 e2 e3 e4
    go_wp2_with fail
    refine Calls.mono (impl_AreDamages_any r0 g5 0 n1 n1 xs1 _ hB5.reads hn1) ?_
    rintro _ w7 ⟨rfl, b7⟩
    replace ha1 := ha1.below2 b7
    replace hB3 := hB3.below2 b7
    replace hB5 := hB5.below2 b7
    replace hw := bw_trans hw b7
    go_wp2_with fail
    refine Calls.mono (toDamageS_any A1 n1 c1 xs1 _ ha1 hn1) ?_
    rintro _ w8 ⟨g8, rfl, q8, hB8, b8⟩
    replace ha1 := ha1.below2 b8
    replace hB3 := hB3.below2 b8
    replace hB5 := hB5.below2 b8
    replace hw := bw_trans hw b8
    go_wp2_with fail
    refine Calls.mono (eqDamageS_any _ _ n1 n1 n1 n1 xs1 xs1 _ (AR3.of hB5.reads) (AR3.of hB8.reads) hn1 hn1) ?_
    rintro _ w9 ⟨rfl, b9⟩
    replace ha1 := ha1.below2 b9
    replace hB3 := hB3.below2 b9
    replace hB5 := hB5.below2 b9
    replace hB8 := hB8.below2 b9
    replace hw := bw_trans hw b9
    go_wp2_with fail
    go_ret
    exact ⟨rfl, bw_trans (bw_alloc (Below.refl _ _) _) hw⟩
end Go.Proofs.Ytagplkdeallbmaa
