/- The laws on the tensions of the rope that goes up and of the one that comes down. -/
import Derived.Test.YtppgfgklnfpgdaaUpDown
import Derived.Test.YtppgfgklnfpgdaaRegion
namespace Go.Proofs.Ytppgfgklnfpgdaa
open Go.RowKit
theorem law_UpTensions (A0 : Option Addr) (n0 c0 : Nat) (xs0 : List Sup) (r1 : R3) (w : World) (rd0 : ASup w A0 n0 xs0 ∧ n0 ≤ 9223372036854775807) : Gv Try.prog 8 #[.slice A0 n0 c0, r1.v] w (.bool true) := by
  obtain ⟨ha0, hm0⟩ := rd0
  replace ha0 := ha0.below2 (w' := (w.alloc (.cells #[.int .i64 r1.a, .int .i64 r1.b, .int .i64 r1.c] 23))) (bw_alloc (Below.refl _ _) _)
  unfold Gv
  unfold R3.v
  by_cases k0 : 1048576 < n0
  · have zz0 : szF n0 ((1048576 : Int)) = -1 := by unfold szF; rw [if_pos (by omega)]
    go_enter Try.func8, Try.ntmps8
    have hw : Below (w.alloc (.cells #[.int .i64 r1.a, .int .i64 r1.b, .int .i64 r1.c] 23)).heap.size (w.alloc (.cells #[.int .i64 r1.a, .int .i64 r1.b, .int .i64 r1.c] 23)) (w.alloc (.cells #[.int .i64 r1.a, .int .i64 r1.b, .int .i64 r1.c] 23)) := Below.refl _ _
    go_wp2_with fail
    refine Calls.mono (szSupport_any A0 n0 c0 ((1048576 : Int)) hm0 (by omega) (by omega) _) ?_
    rintro _ w1 ⟨rfl, b1⟩
    replace hw := bw_trans hw b1
    have z1 := b1.size
    rw [zz0]
    clear zz0
    go_wp2_with fail
    go_ret
    exact ⟨rfl, bw_trans (bw_alloc (Below.refl _ _) _) hw⟩
  · have hn0 : n0 ≤ 1048576 := by omega
    have zz0 : szF n0 ((1048576 : Int)) = (1048576 : Int) - (n0 : Int) := by unfold szF; rw [if_neg (by omega)]
    go_enter Try.func8, Try.ntmps8
    have hw : Below (w.alloc (.cells #[.int .i64 r1.a, .int .i64 r1.b, .int .i64 r1.c] 23)).heap.size (w.alloc (.cells #[.int .i64 r1.a, .int .i64 r1.b, .int .i64 r1.c] 23)) (w.alloc (.cells #[.int .i64 r1.a, .int .i64 r1.b, .int .i64 r1.c] 23)) := Below.refl _ _
    go_wp2_with fail
    refine Calls.mono (szSupport_any A0 n0 c0 ((1048576 : Int)) hm0 (by omega) (by omega) _) ?_
    rintro _ w1 ⟨rfl, b1⟩
    replace hw := bw_trans hw b1
    have z1 := b1.size
    rw [zz0]
    clear zz0
    go_wp2_with fail
    (refine wp_region_C (Below (w1).heap.size (w1)) (by kernel_rfl) ?_)
    generalize hgd2 : w1.drew = w2
    have b2 : Below w1.heap.size w1 w2 := by rw [← hgd2]; exact (Below.refl _ _).drew
    clear hgd2
    have f1_0 : w1.cell? ⟨w.heap.size, 0, none⟩ = some (.int .i64 r1.a) := (hw.cell (p := ⟨_, _, none⟩) (by simp)).trans (by simp [go_sem])
    have f1_1 : w1.cell? ⟨w.heap.size, 1, none⟩ = some (.int .i64 r1.b) := (hw.cell (p := ⟨_, _, none⟩) (by simp)).trans (by simp [go_sem])
    have f1_2 : w1.cell? ⟨w.heap.size, 2, none⟩ = some (.int .i64 r1.c) := (hw.cell (p := ⟨_, _, none⟩) (by simp)).trans (by simp [go_sem])
    have g1_ : w.heap.size < w1.heap.size := by have := hw.size; simp at this; omega
    have hreg := b2
    refine step_read (i := 0) (by kernel_rfl) (by kernel_rfl) rfl hreg rfl (fun K hK => ?_)
    apply Exists.intro
    refine ⟨fun x => ?_, ?_⟩
    · go_simp; (try rfl)
    go_simp; refine hK _ ?_; clear hK K
    refine step_read (i := 2) (by kernel_rfl) (by kernel_rfl) rfl hreg rfl (fun K hK => ?_)
    apply Exists.intro
    refine ⟨fun x => ?_, ?_⟩
    · go_simp; (try rfl)
    go_simp; refine hK _ ?_; clear hK K
    clear f1_0 f1_1 f1_2 g1_
    replace hw := bw_trans hw b2
    have z2 := b2.size
    refine step_one (i := 1) (by kernel_rfl) rfl hreg (fun K hK => ?_)
    go_wp2_with fail
    refine Calls.mono (toSupportS_any A0 n0 c0 xs0 _ (ha0.below2 hw) hn0) ?_
    rintro _ w3 ⟨g3, rfl, q3, hB3, b3⟩
    replace hw := bw_trans hw b3
    have z3 := b3.size
    have u3 := hB3.lt
    have hO3 := hB3.own q3 u3
    replace hreg := bw_trans hreg b3
    (try go_wp2)
    (try refine hK _ _ ?_)
    (try clear hK K)
    refine step_one (i := 3) (by kernel_rfl) rfl hreg (fun K hK => ?_)
    go_wp2_with fail
    refine Calls.mono (toLoadCase_any r1 _) ?_
    rintro _ w4 ⟨rfl, b4⟩
    replace hO3 := hO3.below2 b4
    replace hw := bw_trans hw b4
    have z4 := b4.size
    replace hB3 := hB3.below2 b4
    (try unfold R3.v)
    replace hreg := bw_trans hreg b4
    (try go_wp2)
    (try refine hK _ _ ?_)
    (try clear hK K)
    refine step_one (i := 4) (by kernel_rfl) rfl hreg (fun K hK => ?_)
    go_wp2_with fail
    refine Calls.mono (s_up_any g3 0 n0 n0 xs0 r1 _ hB3.reads hn0) ?_
    rintro _ w5 ⟨Ar5, m5, d5, rfl, hO5, l5, b5⟩
    replace hO3 := hO3.below2 b5
    replace hw := bw_trans hw b5
    have z5 := b5.size
    replace hB3 := hB3.below2 b5
    replace hreg := bw_trans hreg b5
    (try go_wp2)
    (try refine hK _ _ ?_)
    (try clear hK K)
    refine step_read (i := 5) (by kernel_rfl) (by kernel_rfl) rfl hreg rfl (fun K hK => ?_)
    apply Exists.intro
    refine ⟨fun x => ?_, ?_⟩
    · go_simp; (try rfl)
    go_simp; refine hK _ ?_; clear hK K
    refine step_read (i := 6) (by kernel_rfl) (by kernel_rfl) rfl hreg rfl (fun K hK => ?_)
    apply Exists.intro
    refine ⟨fun x => ?_, ?_⟩
    · go_simp; (try rfl)
    go_simp; refine hK _ ?_; clear hK K
    refine step_read (i := 7) (by kernel_rfl) (by kernel_rfl) rfl hreg rfl (fun K hK => ?_)
    apply Exists.intro
    refine ⟨fun x => ?_, ?_⟩
    · go_simp; (try rfl)
    go_simp; refine hK _ ?_; clear hK K
    refine step_read (i := 8) (by kernel_rfl) (by kernel_rfl) rfl hreg rfl (fun K hK => ?_)
    apply Exists.intro
    refine ⟨fun x => ?_, ?_⟩
    · go_simp; (try rfl)
    go_simp; refine hK _ ?_; clear hK K
    refine step_read (i := 9) (by kernel_rfl) (by kernel_rfl) rfl hreg rfl (fun K hK => ?_)
    apply Exists.intro
    refine ⟨fun x => ?_, ?_⟩
    · go_simp; (try rfl)
    go_simp; refine hK _ ?_; clear hK K
    refine step_end (by kernel_rfl) hreg ?_
    clear hreg
    go_wp2_with fail
    refine Calls.mono (toSupportS_any A0 n0 c0 xs0 _ (ha0.below2 hw) hn0) ?_
    rintro _ w6 ⟨g6, rfl, q6, hB6, b6⟩
    replace hO5 := hO5.below2 b6
    replace hw := bw_trans hw b6
    have z6 := b6.size
    have u6 := hB6.lt
    have hO6 := hB6.own q6 u6
    have e0 : w6.cell? ⟨w.heap.size, 0, none⟩ = some (.int .i64 r1.a) := (hw.cell (p := ⟨_, _, none⟩) (by simp)).trans (by simp [go_sem])
    have e1 : w6.cell? ⟨w.heap.size, 1, none⟩ = some (.int .i64 r1.b) := (hw.cell (p := ⟨_, _, none⟩) (by simp)).trans (by simp [go_sem])
    have e2 : w6.cell? ⟨w.heap.size, 2, none⟩ = some (.int .i64 r1.c) := (hw.cell (p := ⟨_, _, none⟩) (by simp)).trans (by simp [go_sem])
    go_wp2_with fail
    refine Calls.mono (toLoadCase_any r1 _) ?_
    rintro _ w7 ⟨rfl, b7⟩
    replace hO5 := hO5.below2 b7
    replace hO6 := hO6.below2 b7
    replace hw := bw_trans hw b7
    have z7 := b7.size
    replace hB6 := hB6.below2 b7
    unfold R3.v
    clear e0 e1 e2
    go_wp2_with fail
    refine Calls.mono (i_Up_any g6 0 n0 n0 xs0 r1 _ hB6.reads hn0) ?_
    rintro _ w8 ⟨Ar8, m8, d8, rfl, hO8, l8, b8⟩
    replace hO5 := hO5.below2 b8
    replace hO6 := hO6.below2 b8
    replace hw := bw_trans hw b8
    have z8 := b8.size
    replace hB6 := hB6.below2 b8
    go_wp2_with fail
    refine Calls.mono (eqIntS_any _ _ m8 m5 d8 d5 _ _ _ hO8.reads hO5.reads l8 l5) ?_
    rintro _ w9 ⟨rfl, b9⟩
    replace hO5 := hO5.below2 b9
    replace hO6 := hO6.below2 b9
    replace hO8 := hO8.below2 b9
    replace hw := bw_trans hw b9
    have z9 := b9.size
    go_wp2_with fail
    refine Calls.mono (toSupportS_any A0 n0 c0 xs0 _ (ha0.below2 hw) hn0) ?_
    rintro _ w10 ⟨g10, rfl, q10, hB10, b10⟩
    replace hO5 := hO5.below2 b10
    replace hO6 := hO6.below2 b10
    replace hO8 := hO8.below2 b10
    replace hw := bw_trans hw b10
    have z10 := b10.size
    have u10 := hB10.lt
    have hO10 := hB10.own q10 u10
    go_wp2_with fail
    refine Calls.mono (eqSupportS_any _ _ n0 n0 n0 n0 xs0 xs0 _ hO6.reads hO10.reads hn0 hn0) ?_
    rintro _ w11 ⟨rfl, b11⟩
    replace hO5 := hO5.below2 b11
    replace hO6 := hO6.below2 b11
    replace hO8 := hO8.below2 b11
    replace hO10 := hO10.below2 b11
    replace hw := bw_trans hw b11
    have z11 := b11.size
    go_wp2_with fail
    refine Calls.mono (markSupportS_any _ _ _ n0 n0 1 _ _ hO6 hn0 (by omega) (by omega)) ?_
    rintro _ w12 ⟨rfl, hO6, t12⟩
    replace hO5 := hO5.tch t12 (by omega) (by omega)
    replace hO8 := hO8.tch t12 (by omega) (by omega)
    replace hw := hw.trans (t12.below (B := (w.alloc (.cells #[.int .i64 r1.a, .int .i64 r1.b, .int .i64 r1.c] 23)).heap.size) (by omega) (by omega))
    have z12 := t12.size
    go_wp2_with fail
    refine Calls.mono (eqIntS_any _ _ m8 m5 d8 d5 _ _ _ hO8.reads hO5.reads l8 l5) ?_
    rintro _ w13 ⟨rfl, b13⟩
    replace hO5 := hO5.below2 b13
    replace hO8 := hO8.below2 b13
    replace hw := bw_trans hw b13
    have z13 := b13.size
    go_wp2_with fail
    refine Calls.mono (markIntS_any _ _ _ m8 d8 1 _ _ hO8 l8 (by omega) (by omega)) ?_
    rintro _ w14 ⟨rfl, hO8, t14⟩
    replace hO5 := hO5.tch t14 (by omega) (by omega)
    replace hw := hw.trans (t14.below (B := (w.alloc (.cells #[.int .i64 r1.a, .int .i64 r1.b, .int .i64 r1.c] 23)).heap.size) (by omega) (by omega))
    have z14 := t14.size
    go_wp2_with fail
    refine Calls.mono (heldIntS_any _ m8 d8 1 _ hO8.reads l8 (by omega) (by omega)) ?_
    rintro _ w15 ⟨rfl, b15⟩
    replace hO5 := hO5.below2 b15
    replace hO8 := hO8.below2 b15
    replace hw := bw_trans hw b15
    have z15 := b15.size
    go_wp2_with fail
    (refine wp_region_C (Below (w15).heap.size (w15)) (by kernel_rfl) ?_)
    generalize hgd16 : w15.drew = w16
    have b16 : Below w15.heap.size w15 w16 := by rw [← hgd16]; exact (Below.refl _ _).drew
    clear hgd16
    have f1_0 : w15.cell? ⟨w.heap.size, 0, none⟩ = some (.int .i64 r1.a) := (hw.cell (p := ⟨_, _, none⟩) (by simp)).trans (by simp [go_sem])
    have f1_1 : w15.cell? ⟨w.heap.size, 1, none⟩ = some (.int .i64 r1.b) := (hw.cell (p := ⟨_, _, none⟩) (by simp)).trans (by simp [go_sem])
    have f1_2 : w15.cell? ⟨w.heap.size, 2, none⟩ = some (.int .i64 r1.c) := (hw.cell (p := ⟨_, _, none⟩) (by simp)).trans (by simp [go_sem])
    have g1_ : w.heap.size < w15.heap.size := by have := hw.size; simp at this; omega
    have hreg := b16
    refine step_read (i := 0) (by kernel_rfl) (by kernel_rfl) rfl hreg rfl (fun K hK => ?_)
    apply Exists.intro
    refine ⟨fun x => ?_, ?_⟩
    · go_simp; (try rfl)
    go_simp; refine hK _ ?_; clear hK K
    refine step_read (i := 2) (by kernel_rfl) (by kernel_rfl) rfl hreg rfl (fun K hK => ?_)
    apply Exists.intro
    refine ⟨fun x => ?_, ?_⟩
    · go_simp; (try rfl)
    go_simp; refine hK _ ?_; clear hK K
    clear f1_0 f1_1 f1_2 g1_
    replace hO5 := hO5.below2 b16
    replace hO8 := hO8.below2 b16
    replace hw := bw_trans hw b16
    have z16 := b16.size
    refine step_one (i := 1) (by kernel_rfl) rfl hreg (fun K hK => ?_)
    go_wp2_with fail
    refine Calls.mono (toSupportS_any A0 n0 c0 xs0 _ (ha0.below2 hw) hn0) ?_
    rintro _ w17 ⟨g17, rfl, q17, hB17, b17⟩
    replace hO5 := hO5.below2 b17
    replace hO8 := hO8.below2 b17
    replace hw := bw_trans hw b17
    have z17 := b17.size
    have u17 := hB17.lt
    have hO17 := hB17.own q17 u17
    replace hreg := bw_trans hreg b17
    (try go_wp2)
    (try refine hK _ _ ?_)
    (try clear hK K)
    refine step_one (i := 3) (by kernel_rfl) rfl hreg (fun K hK => ?_)
    go_wp2_with fail
    refine Calls.mono (toLoadCase_any r1 _) ?_
    rintro _ w18 ⟨rfl, b18⟩
    replace hO5 := hO5.below2 b18
    replace hO8 := hO8.below2 b18
    replace hO17 := hO17.below2 b18
    replace hw := bw_trans hw b18
    have z18 := b18.size
    replace hB17 := hB17.below2 b18
    (try unfold R3.v)
    replace hreg := bw_trans hreg b18
    (try go_wp2)
    (try refine hK _ _ ?_)
    (try clear hK K)
    refine step_one (i := 4) (by kernel_rfl) rfl hreg (fun K hK => ?_)
    go_wp2_with fail
    refine Calls.mono (i_Up_any g17 0 n0 n0 xs0 r1 _ hB17.reads hn0) ?_
    rintro _ w19 ⟨Ar19, m19, d19, rfl, hO19, l19, b19⟩
    replace hO5 := hO5.below2 b19
    replace hO8 := hO8.below2 b19
    replace hO17 := hO17.below2 b19
    replace hw := bw_trans hw b19
    have z19 := b19.size
    replace hB17 := hB17.below2 b19
    replace hreg := bw_trans hreg b19
    (try go_wp2)
    (try refine hK _ _ ?_)
    (try clear hK K)
    refine step_read (i := 5) (by kernel_rfl) (by kernel_rfl) rfl hreg rfl (fun K hK => ?_)
    apply Exists.intro
    refine ⟨fun x => ?_, ?_⟩
    · go_simp; (try rfl)
    go_simp; refine hK _ ?_; clear hK K
    refine step_read (i := 6) (by kernel_rfl) (by kernel_rfl) rfl hreg rfl (fun K hK => ?_)
    apply Exists.intro
    refine ⟨fun x => ?_, ?_⟩
    · go_simp; (try rfl)
    go_simp; refine hK _ ?_; clear hK K
    refine step_read (i := 7) (by kernel_rfl) (by kernel_rfl) rfl hreg rfl (fun K hK => ?_)
    apply Exists.intro
    refine ⟨fun x => ?_, ?_⟩
    · go_simp; (try rfl)
    go_simp; refine hK _ ?_; clear hK K
    refine step_read (i := 8) (by kernel_rfl) (by kernel_rfl) rfl hreg rfl (fun K hK => ?_)
    apply Exists.intro
    refine ⟨fun x => ?_, ?_⟩
    · go_simp; (try rfl)
    go_simp; refine hK _ ?_; clear hK K
    refine step_read (i := 9) (by kernel_rfl) (by kernel_rfl) rfl hreg rfl (fun K hK => ?_)
    apply Exists.intro
    refine ⟨fun x => ?_, ?_⟩
    · go_simp; (try rfl)
    go_simp; refine hK _ ?_; clear hK K
    refine step_end (by kernel_rfl) hreg ?_
    clear hreg
    go_wp2_with fail
    refine Calls.mono (eqIntS_any _ _ m19 m5 d19 d5 _ _ _ hO19.reads hO5.reads l19 l5) ?_
    rintro _ w20 ⟨rfl, b20⟩
    replace hO5 := hO5.below2 b20
    replace hO8 := hO8.below2 b20
    replace hO19 := hO19.below2 b20
    replace hw := bw_trans hw b20
    have z20 := b20.size
    go_wp2_with fail
    refine Calls.mono (heldIntS_any _ m8 d8 1 _ hO8.reads l8 (by omega) (by omega)) ?_
    rintro _ w21 ⟨rfl, b21⟩
    replace hO5 := hO5.below2 b21
    replace hO8 := hO8.below2 b21
    replace hO19 := hO19.below2 b21
    replace hw := bw_trans hw b21
    have z21 := b21.size
    go_wp2_with fail
    go_ret
    exact ⟨rfl, bw_trans (bw_alloc (Below.refl _ _) _) hw⟩
theorem law_DownTensions (A0 : Option Addr) (n0 c0 : Nat) (xs0 : List Sup) (r1 : R3) (w : World) (rd0 : ASup w A0 n0 xs0 ∧ n0 ≤ 9223372036854775807) : Gv Try.prog 7 #[.slice A0 n0 c0, r1.v] w (.bool true) := by
  obtain ⟨ha0, hm0⟩ := rd0
  replace ha0 := ha0.below2 (w' := (w.alloc (.cells #[.int .i64 r1.a, .int .i64 r1.b, .int .i64 r1.c] 23))) (bw_alloc (Below.refl _ _) _)
  unfold Gv
  unfold R3.v
  by_cases k0 : 1048576 < n0
  · have zz0 : szF n0 ((1048576 : Int)) = -1 := by unfold szF; rw [if_pos (by omega)]
    go_enter Try.func7, Try.ntmps7
    have hw : Below (w.alloc (.cells #[.int .i64 r1.a, .int .i64 r1.b, .int .i64 r1.c] 23)).heap.size (w.alloc (.cells #[.int .i64 r1.a, .int .i64 r1.b, .int .i64 r1.c] 23)) (w.alloc (.cells #[.int .i64 r1.a, .int .i64 r1.b, .int .i64 r1.c] 23)) := Below.refl _ _
    go_wp2_with fail
    refine Calls.mono (szSupport_any A0 n0 c0 ((1048576 : Int)) hm0 (by omega) (by omega) _) ?_
    rintro _ w1 ⟨rfl, b1⟩
    replace hw := bw_trans hw b1
    have z1 := b1.size
    rw [zz0]
    clear zz0
    go_wp2_with fail
    go_ret
    exact ⟨rfl, bw_trans (bw_alloc (Below.refl _ _) _) hw⟩
  · have hn0 : n0 ≤ 1048576 := by omega
    have zz0 : szF n0 ((1048576 : Int)) = (1048576 : Int) - (n0 : Int) := by unfold szF; rw [if_neg (by omega)]
    go_enter Try.func7, Try.ntmps7
    have hw : Below (w.alloc (.cells #[.int .i64 r1.a, .int .i64 r1.b, .int .i64 r1.c] 23)).heap.size (w.alloc (.cells #[.int .i64 r1.a, .int .i64 r1.b, .int .i64 r1.c] 23)) (w.alloc (.cells #[.int .i64 r1.a, .int .i64 r1.b, .int .i64 r1.c] 23)) := Below.refl _ _
    go_wp2_with fail
    refine Calls.mono (szSupport_any A0 n0 c0 ((1048576 : Int)) hm0 (by omega) (by omega) _) ?_
    rintro _ w1 ⟨rfl, b1⟩
    replace hw := bw_trans hw b1
    have z1 := b1.size
    rw [zz0]
    clear zz0
    go_wp2_with fail
    (refine wp_region_C (Below (w1).heap.size (w1)) (by kernel_rfl) ?_)
    generalize hgd2 : w1.drew = w2
    have b2 : Below w1.heap.size w1 w2 := by rw [← hgd2]; exact (Below.refl _ _).drew
    clear hgd2
    have f1_0 : w1.cell? ⟨w.heap.size, 0, none⟩ = some (.int .i64 r1.a) := (hw.cell (p := ⟨_, _, none⟩) (by simp)).trans (by simp [go_sem])
    have f1_1 : w1.cell? ⟨w.heap.size, 1, none⟩ = some (.int .i64 r1.b) := (hw.cell (p := ⟨_, _, none⟩) (by simp)).trans (by simp [go_sem])
    have f1_2 : w1.cell? ⟨w.heap.size, 2, none⟩ = some (.int .i64 r1.c) := (hw.cell (p := ⟨_, _, none⟩) (by simp)).trans (by simp [go_sem])
    have g1_ : w.heap.size < w1.heap.size := by have := hw.size; simp at this; omega
    have hreg := b2
    refine step_read (i := 0) (by kernel_rfl) (by kernel_rfl) rfl hreg rfl (fun K hK => ?_)
    apply Exists.intro
    refine ⟨fun x => ?_, ?_⟩
    · go_simp; (try rfl)
    go_simp; refine hK _ ?_; clear hK K
    refine step_read (i := 2) (by kernel_rfl) (by kernel_rfl) rfl hreg rfl (fun K hK => ?_)
    apply Exists.intro
    refine ⟨fun x => ?_, ?_⟩
    · go_simp; (try rfl)
    go_simp; refine hK _ ?_; clear hK K
    clear f1_0 f1_1 f1_2 g1_
    replace hw := bw_trans hw b2
    have z2 := b2.size
    refine step_one (i := 1) (by kernel_rfl) rfl hreg (fun K hK => ?_)
    go_wp2_with fail
    refine Calls.mono (toSupportS_any A0 n0 c0 xs0 _ (ha0.below2 hw) hn0) ?_
    rintro _ w3 ⟨g3, rfl, q3, hB3, b3⟩
    replace hw := bw_trans hw b3
    have z3 := b3.size
    have u3 := hB3.lt
    have hO3 := hB3.own q3 u3
    replace hreg := bw_trans hreg b3
    (try go_wp2)
    (try refine hK _ _ ?_)
    (try clear hK K)
    refine step_one (i := 3) (by kernel_rfl) rfl hreg (fun K hK => ?_)
    go_wp2_with fail
    refine Calls.mono (toLoadCase_any r1 _) ?_
    rintro _ w4 ⟨rfl, b4⟩
    replace hO3 := hO3.below2 b4
    replace hw := bw_trans hw b4
    have z4 := b4.size
    replace hB3 := hB3.below2 b4
    (try unfold R3.v)
    replace hreg := bw_trans hreg b4
    (try go_wp2)
    (try refine hK _ _ ?_)
    (try clear hK K)
    refine step_one (i := 4) (by kernel_rfl) rfl hreg (fun K hK => ?_)
    go_wp2_with fail
    refine Calls.mono (s_Down_any g3 0 n0 n0 xs0 r1 _ hB3.reads hn0) ?_
    rintro _ w5 ⟨Ar5, m5, d5, rfl, hO5, l5, b5⟩
    replace hO3 := hO3.below2 b5
    replace hw := bw_trans hw b5
    have z5 := b5.size
    replace hB3 := hB3.below2 b5
    replace hreg := bw_trans hreg b5
    (try go_wp2)
    (try refine hK _ _ ?_)
    (try clear hK K)
    refine step_read (i := 5) (by kernel_rfl) (by kernel_rfl) rfl hreg rfl (fun K hK => ?_)
    apply Exists.intro
    refine ⟨fun x => ?_, ?_⟩
    · go_simp; (try rfl)
    go_simp; refine hK _ ?_; clear hK K
    refine step_read (i := 6) (by kernel_rfl) (by kernel_rfl) rfl hreg rfl (fun K hK => ?_)
    apply Exists.intro
    refine ⟨fun x => ?_, ?_⟩
    · go_simp; (try rfl)
    go_simp; refine hK _ ?_; clear hK K
    refine step_read (i := 7) (by kernel_rfl) (by kernel_rfl) rfl hreg rfl (fun K hK => ?_)
    apply Exists.intro
    refine ⟨fun x => ?_, ?_⟩
    · go_simp; (try rfl)
    go_simp; refine hK _ ?_; clear hK K
    refine step_read (i := 8) (by kernel_rfl) (by kernel_rfl) rfl hreg rfl (fun K hK => ?_)
    apply Exists.intro
    refine ⟨fun x => ?_, ?_⟩
    · go_simp; (try rfl)
    go_simp; refine hK _ ?_; clear hK K
    refine step_read (i := 9) (by kernel_rfl) (by kernel_rfl) rfl hreg rfl (fun K hK => ?_)
    apply Exists.intro
    refine ⟨fun x => ?_, ?_⟩
    · go_simp; (try rfl)
    go_simp; refine hK _ ?_; clear hK K
    refine step_end (by kernel_rfl) hreg ?_
    clear hreg
    go_wp2_with fail
    refine Calls.mono (toSupportS_any A0 n0 c0 xs0 _ (ha0.below2 hw) hn0) ?_
    rintro _ w6 ⟨g6, rfl, q6, hB6, b6⟩
    replace hO5 := hO5.below2 b6
    replace hw := bw_trans hw b6
    have z6 := b6.size
    have u6 := hB6.lt
    have hO6 := hB6.own q6 u6
    have e0 : w6.cell? ⟨w.heap.size, 0, none⟩ = some (.int .i64 r1.a) := (hw.cell (p := ⟨_, _, none⟩) (by simp)).trans (by simp [go_sem])
    have e1 : w6.cell? ⟨w.heap.size, 1, none⟩ = some (.int .i64 r1.b) := (hw.cell (p := ⟨_, _, none⟩) (by simp)).trans (by simp [go_sem])
    have e2 : w6.cell? ⟨w.heap.size, 2, none⟩ = some (.int .i64 r1.c) := (hw.cell (p := ⟨_, _, none⟩) (by simp)).trans (by simp [go_sem])
    go_wp2_with fail
    refine Calls.mono (toLoadCase_any r1 _) ?_
    rintro _ w7 ⟨rfl, b7⟩
    replace hO5 := hO5.below2 b7
    replace hO6 := hO6.below2 b7
    replace hw := bw_trans hw b7
    have z7 := b7.size
    replace hB6 := hB6.below2 b7
    unfold R3.v
    clear e0 e1 e2
    go_wp2_with fail
    refine Calls.mono (i_Down_any g6 0 n0 n0 xs0 r1 _ hB6.reads hn0) ?_
    rintro _ w8 ⟨Ar8, m8, d8, rfl, hO8, l8, b8⟩
    replace hO5 := hO5.below2 b8
    replace hO6 := hO6.below2 b8
    replace hw := bw_trans hw b8
    have z8 := b8.size
    replace hB6 := hB6.below2 b8
    go_wp2_with fail
    refine Calls.mono (eqIntS_any _ _ m8 m5 d8 d5 _ _ _ hO8.reads hO5.reads l8 l5) ?_
    rintro _ w9 ⟨rfl, b9⟩
    replace hO5 := hO5.below2 b9
    replace hO6 := hO6.below2 b9
    replace hO8 := hO8.below2 b9
    replace hw := bw_trans hw b9
    have z9 := b9.size
    go_wp2_with fail
    refine Calls.mono (toSupportS_any A0 n0 c0 xs0 _ (ha0.below2 hw) hn0) ?_
    rintro _ w10 ⟨g10, rfl, q10, hB10, b10⟩
    replace hO5 := hO5.below2 b10
    replace hO6 := hO6.below2 b10
    replace hO8 := hO8.below2 b10
    replace hw := bw_trans hw b10
    have z10 := b10.size
    have u10 := hB10.lt
    have hO10 := hB10.own q10 u10
    go_wp2_with fail
    refine Calls.mono (eqSupportS_any _ _ n0 n0 n0 n0 xs0 xs0 _ hO6.reads hO10.reads hn0 hn0) ?_
    rintro _ w11 ⟨rfl, b11⟩
    replace hO5 := hO5.below2 b11
    replace hO6 := hO6.below2 b11
    replace hO8 := hO8.below2 b11
    replace hO10 := hO10.below2 b11
    replace hw := bw_trans hw b11
    have z11 := b11.size
    go_wp2_with fail
    refine Calls.mono (markSupportS_any _ _ _ n0 n0 1 _ _ hO6 hn0 (by omega) (by omega)) ?_
    rintro _ w12 ⟨rfl, hO6, t12⟩
    replace hO5 := hO5.tch t12 (by omega) (by omega)
    replace hO8 := hO8.tch t12 (by omega) (by omega)
    replace hw := hw.trans (t12.below (B := (w.alloc (.cells #[.int .i64 r1.a, .int .i64 r1.b, .int .i64 r1.c] 23)).heap.size) (by omega) (by omega))
    have z12 := t12.size
    go_wp2_with fail
    refine Calls.mono (eqIntS_any _ _ m8 m5 d8 d5 _ _ _ hO8.reads hO5.reads l8 l5) ?_
    rintro _ w13 ⟨rfl, b13⟩
    replace hO5 := hO5.below2 b13
    replace hO8 := hO8.below2 b13
    replace hw := bw_trans hw b13
    have z13 := b13.size
    go_wp2_with fail
    refine Calls.mono (markIntS_any _ _ _ m8 d8 1 _ _ hO8 l8 (by omega) (by omega)) ?_
    rintro _ w14 ⟨rfl, hO8, t14⟩
    replace hO5 := hO5.tch t14 (by omega) (by omega)
    replace hw := hw.trans (t14.below (B := (w.alloc (.cells #[.int .i64 r1.a, .int .i64 r1.b, .int .i64 r1.c] 23)).heap.size) (by omega) (by omega))
    have z14 := t14.size
    go_wp2_with fail
    refine Calls.mono (heldIntS_any _ m8 d8 1 _ hO8.reads l8 (by omega) (by omega)) ?_
    rintro _ w15 ⟨rfl, b15⟩
    replace hO5 := hO5.below2 b15
    replace hO8 := hO8.below2 b15
    replace hw := bw_trans hw b15
    have z15 := b15.size
    go_wp2_with fail
    (refine wp_region_C (Below (w15).heap.size (w15)) (by kernel_rfl) ?_)
    generalize hgd16 : w15.drew = w16
    have b16 : Below w15.heap.size w15 w16 := by rw [← hgd16]; exact (Below.refl _ _).drew
    clear hgd16
    have f1_0 : w15.cell? ⟨w.heap.size, 0, none⟩ = some (.int .i64 r1.a) := (hw.cell (p := ⟨_, _, none⟩) (by simp)).trans (by simp [go_sem])
    have f1_1 : w15.cell? ⟨w.heap.size, 1, none⟩ = some (.int .i64 r1.b) := (hw.cell (p := ⟨_, _, none⟩) (by simp)).trans (by simp [go_sem])
    have f1_2 : w15.cell? ⟨w.heap.size, 2, none⟩ = some (.int .i64 r1.c) := (hw.cell (p := ⟨_, _, none⟩) (by simp)).trans (by simp [go_sem])
    have g1_ : w.heap.size < w15.heap.size := by have := hw.size; simp at this; omega
    have hreg := b16
    refine step_read (i := 0) (by kernel_rfl) (by kernel_rfl) rfl hreg rfl (fun K hK => ?_)
    apply Exists.intro
    refine ⟨fun x => ?_, ?_⟩
    · go_simp; (try rfl)
    go_simp; refine hK _ ?_; clear hK K
    refine step_read (i := 2) (by kernel_rfl) (by kernel_rfl) rfl hreg rfl (fun K hK => ?_)
    apply Exists.intro
    refine ⟨fun x => ?_, ?_⟩
    · go_simp; (try rfl)
    go_simp; refine hK _ ?_; clear hK K
    clear f1_0 f1_1 f1_2 g1_
    replace hO5 := hO5.below2 b16
    replace hO8 := hO8.below2 b16
    replace hw := bw_trans hw b16
    have z16 := b16.size
    refine step_one (i := 1) (by kernel_rfl) rfl hreg (fun K hK => ?_)
    go_wp2_with fail
    refine Calls.mono (toSupportS_any A0 n0 c0 xs0 _ (ha0.below2 hw) hn0) ?_
    rintro _ w17 ⟨g17, rfl, q17, hB17, b17⟩
    replace hO5 := hO5.below2 b17
    replace hO8 := hO8.below2 b17
    replace hw := bw_trans hw b17
    have z17 := b17.size
    have u17 := hB17.lt
    have hO17 := hB17.own q17 u17
    replace hreg := bw_trans hreg b17
    (try go_wp2)
    (try refine hK _ _ ?_)
    (try clear hK K)
    refine step_one (i := 3) (by kernel_rfl) rfl hreg (fun K hK => ?_)
    go_wp2_with fail
    refine Calls.mono (toLoadCase_any r1 _) ?_
    rintro _ w18 ⟨rfl, b18⟩
    replace hO5 := hO5.below2 b18
    replace hO8 := hO8.below2 b18
    replace hO17 := hO17.below2 b18
    replace hw := bw_trans hw b18
    have z18 := b18.size
    replace hB17 := hB17.below2 b18
    (try unfold R3.v)
    replace hreg := bw_trans hreg b18
    (try go_wp2)
    (try refine hK _ _ ?_)
    (try clear hK K)
    refine step_one (i := 4) (by kernel_rfl) rfl hreg (fun K hK => ?_)
    go_wp2_with fail
    refine Calls.mono (i_Down_any g17 0 n0 n0 xs0 r1 _ hB17.reads hn0) ?_
    rintro _ w19 ⟨Ar19, m19, d19, rfl, hO19, l19, b19⟩
    replace hO5 := hO5.below2 b19
    replace hO8 := hO8.below2 b19
    replace hO17 := hO17.below2 b19
    replace hw := bw_trans hw b19
    have z19 := b19.size
    replace hB17 := hB17.below2 b19
    replace hreg := bw_trans hreg b19
    (try go_wp2)
    (try refine hK _ _ ?_)
    (try clear hK K)
    refine step_read (i := 5) (by kernel_rfl) (by kernel_rfl) rfl hreg rfl (fun K hK => ?_)
    apply Exists.intro
    refine ⟨fun x => ?_, ?_⟩
    · go_simp; (try rfl)
    go_simp; refine hK _ ?_; clear hK K
    refine step_read (i := 6) (by kernel_rfl) (by kernel_rfl) rfl hreg rfl (fun K hK => ?_)
    apply Exists.intro
    refine ⟨fun x => ?_, ?_⟩
    · go_simp; (try rfl)
    go_simp; refine hK _ ?_; clear hK K
    refine step_read (i := 7) (by kernel_rfl) (by kernel_rfl) rfl hreg rfl (fun K hK => ?_)
    apply Exists.intro
    refine ⟨fun x => ?_, ?_⟩
    · go_simp; (try rfl)
    go_simp; refine hK _ ?_; clear hK K
    refine step_read (i := 8) (by kernel_rfl) (by kernel_rfl) rfl hreg rfl (fun K hK => ?_)
    apply Exists.intro
    refine ⟨fun x => ?_, ?_⟩
    · go_simp; (try rfl)
    go_simp; refine hK _ ?_; clear hK K
    refine step_read (i := 9) (by kernel_rfl) (by kernel_rfl) rfl hreg rfl (fun K hK => ?_)
    apply Exists.intro
    refine ⟨fun x => ?_, ?_⟩
    · go_simp; (try rfl)
    go_simp; refine hK _ ?_; clear hK K
    refine step_end (by kernel_rfl) hreg ?_
    clear hreg
    go_wp2_with fail
    refine Calls.mono (eqIntS_any _ _ m19 m5 d19 d5 _ _ _ hO19.reads hO5.reads l19 l5) ?_
    rintro _ w20 ⟨rfl, b20⟩
    replace hO5 := hO5.below2 b20
    replace hO8 := hO8.below2 b20
    replace hO19 := hO19.below2 b20
    replace hw := bw_trans hw b20
    have z20 := b20.size
    go_wp2_with fail
    refine Calls.mono (heldIntS_any _ m8 d8 1 _ hO8.reads l8 (by omega) (by omega)) ?_
    rintro _ w21 ⟨rfl, b21⟩
    replace hO5 := hO5.below2 b21
    replace hO8 := hO8.below2 b21
    replace hO19 := hO19.below2 b21
    replace hw := bw_trans hw b21
    have z21 := b21.size
    go_wp2_with fail
    go_ret
    exact ⟨rfl, bw_trans (bw_alloc (Below.refl _ _) _) hw⟩
end Go.Proofs.Ytppgfgklnfpgdaa
