/- A damage added to a rope's damages: the law. -/
import Derived.Test.YtagplkdeallbmaaAddS
import Derived.Test.YtagplkdeallbmaaMark
namespace Go.Proofs.Ytagplkdeallbmaa
open Go Go.RowKit
theorem s_AddDamage_c (k : R5) (g off n c : Nat) (xs : List R3) (d : R3) (w : World) (hs : SR3 w g off n xs) (hn : n ≤ 1048576) (hI : I64 d.c) (hc : c = n) : GR3 Try.prog 38 #[k.v, .slice (some ⟨g, off, none⟩) n c, d.v] w (addF k xs d) := by
  subst hc
  exact s_AddDamage_any k g off _ xs d w hs hn hI
set_option maxHeartbeats 4000000 in
theorem law_AddDamage (r0 : R5) (A1 : Option Addr) (n1 c1 : Nat) (xs1 : List R3) (r2 : R3) (w : World) (rd1 : AR3 w A1 n1 xs1 ∧ n1 ≤ 9223372036854775807) (hI : I64 r2.c) : Gv Try.prog 12 #[r0.v, .slice A1 n1 c1, r2.v] w (.bool true) := by
  obtain ⟨ha1, hm1⟩ := rd1
  replace ha1 := ha1.below2 (w' := ((w.alloc (.cells #[.int .i64 r0.a, .int .i64 r0.b, .int .i64 r0.c, .int .i64 r0.d, .int .i64 r0.e] 23)).alloc (.cells #[.int .i64 r2.a, .int .i64 r2.b, .int .i64 r2.c] 56))) (bw_alloc (bw_alloc (Below.refl _ _) _) _)
  unfold Gv
  unfold R3.v R5.v
  by_cases k1 : 1048576 < n1
  · have zz1 : szF n1 ((1048576 : Int)) = -1 := by unfold szF; rw [if_pos (by omega)]
    go_enter Try.func12, Try.ntmps12
    have hw : Below ((w.alloc (.cells #[.int .i64 r0.a, .int .i64 r0.b, .int .i64 r0.c, .int .i64 r0.d, .int .i64 r0.e] 23)).alloc (.cells #[.int .i64 r2.a, .int .i64 r2.b, .int .i64 r2.c] 56)).heap.size ((w.alloc (.cells #[.int .i64 r0.a, .int .i64 r0.b, .int .i64 r0.c, .int .i64 r0.d, .int .i64 r0.e] 23)).alloc (.cells #[.int .i64 r2.a, .int .i64 r2.b, .int .i64 r2.c] 56)) ((w.alloc (.cells #[.int .i64 r0.a, .int .i64 r0.b, .int .i64 r0.c, .int .i64 r0.d, .int .i64 r0.e] 23)).alloc (.cells #[.int .i64 r2.a, .int .i64 r2.b, .int .i64 r2.c] 56)) := Below.refl _ _
    go_wp2_with fail
    refine Calls.mono (szDamage_any A1 n1 c1 ((1048576 : Int)) hm1 (by omega) (by omega) _) ?_
    rintro _ w1 ⟨rfl, b1⟩
    replace hw := bw_trans hw b1
    have z1 := b1.size
    rw [zz1]
    clear zz1
    go_wp2_with fail
    go_ret
    exact ⟨rfl, bw_trans (bw_alloc (bw_alloc (Below.refl _ _) _) _) hw⟩
  · have hn1 : n1 ≤ 1048576 := by omega
    have zz1 : szF n1 ((1048576 : Int)) = (1048576 : Int) - (n1 : Int) := by unfold szF; rw [if_neg (by omega)]
    go_enter Try.func12, Try.ntmps12
    have hw : Below ((w.alloc (.cells #[.int .i64 r0.a, .int .i64 r0.b, .int .i64 r0.c, .int .i64 r0.d, .int .i64 r0.e] 23)).alloc (.cells #[.int .i64 r2.a, .int .i64 r2.b, .int .i64 r2.c] 56)).heap.size ((w.alloc (.cells #[.int .i64 r0.a, .int .i64 r0.b, .int .i64 r0.c, .int .i64 r0.d, .int .i64 r0.e] 23)).alloc (.cells #[.int .i64 r2.a, .int .i64 r2.b, .int .i64 r2.c] 56)) ((w.alloc (.cells #[.int .i64 r0.a, .int .i64 r0.b, .int .i64 r0.c, .int .i64 r0.d, .int .i64 r0.e] 23)).alloc (.cells #[.int .i64 r2.a, .int .i64 r2.b, .int .i64 r2.c] 56)) := Below.refl _ _
    go_wp2_with fail
    refine Calls.mono (szDamage_any A1 n1 c1 ((1048576 : Int)) hm1 (by omega) (by omega) _) ?_
    rintro _ w1 ⟨rfl, b1⟩
    replace hw := bw_trans hw b1
    have z1 := b1.size
    rw [zz1]
    clear zz1
    go_wp2_with fail
    (refine wp_region_C (Below (w1).heap.size (w1)) (by kernel_rfl) ?_)
    generalize hgd2 : w1.drew = w2
    have b2 : Below w1.heap.size w1 w2 := by rw [← hgd2]; exact (Below.refl _ _).drew
    clear hgd2
    have f0_0 : w1.cell? ⟨w.heap.size, 0, none⟩ = some (.int .i64 r0.a) := (hw.cell (p := ⟨_, _, none⟩) (by first | (simp; done) | (simp; omega))).trans (by simp [go_sem])
    have f0_1 : w1.cell? ⟨w.heap.size, 1, none⟩ = some (.int .i64 r0.b) := (hw.cell (p := ⟨_, _, none⟩) (by first | (simp; done) | (simp; omega))).trans (by simp [go_sem])
    have f0_2 : w1.cell? ⟨w.heap.size, 2, none⟩ = some (.int .i64 r0.c) := (hw.cell (p := ⟨_, _, none⟩) (by first | (simp; done) | (simp; omega))).trans (by simp [go_sem])
    have f0_3 : w1.cell? ⟨w.heap.size, 3, none⟩ = some (.int .i64 r0.d) := (hw.cell (p := ⟨_, _, none⟩) (by first | (simp; done) | (simp; omega))).trans (by simp [go_sem])
    have f0_4 : w1.cell? ⟨w.heap.size, 4, none⟩ = some (.int .i64 r0.e) := (hw.cell (p := ⟨_, _, none⟩) (by first | (simp; done) | (simp; omega))).trans (by simp [go_sem])
    have g0_ : w.heap.size < w1.heap.size := by have := hw.size; simp at this; omega
    have f2_0 : w1.cell? ⟨w.heap.size + 1, 0, none⟩ = some (.int .i64 r2.a) := (hw.cell (p := ⟨_, _, none⟩) (by first | (simp; done) | (simp; omega))).trans (by simp [go_sem])
    have f2_1 : w1.cell? ⟨w.heap.size + 1, 1, none⟩ = some (.int .i64 r2.b) := (hw.cell (p := ⟨_, _, none⟩) (by first | (simp; done) | (simp; omega))).trans (by simp [go_sem])
    have f2_2 : w1.cell? ⟨w.heap.size + 1, 2, none⟩ = some (.int .i64 r2.c) := (hw.cell (p := ⟨_, _, none⟩) (by first | (simp; done) | (simp; omega))).trans (by simp [go_sem])
    have g2_ : w.heap.size + 1 < w1.heap.size := by have := hw.size; simp at this; omega
    have hreg := b2
    refine step_read (i := 0) (by kernel_rfl) (by kernel_rfl) rfl hreg rfl (fun K hK => ?_)
    apply Exists.intro
    refine ⟨fun x => ?_, ?_⟩
    · go_simp; (try rfl)
    go_simp; refine hK _ ?_; clear hK K
    refine step_read (i := 2) (by kernel_rfl) (by kernel_rfl) rfl hreg rfl (fun K hK => ?_)
    apply Exists.intro
    refine ⟨fun x => ?_, ?_⟩
    · go_simp; (try rfl)
    go_simp; refine hK _ ?_; clear hK K
    refine step_read (i := 4) (by kernel_rfl) (by kernel_rfl) rfl hreg rfl (fun K hK => ?_)
    apply Exists.intro
    refine ⟨fun x => ?_, ?_⟩
    · go_simp; (try rfl)
    go_simp; refine hK _ ?_; clear hK K
    clear f0_0 f0_1 f0_2 f0_3 f0_4 g0_ f2_0 f2_1 f2_2 g2_
    replace hw := bw_trans hw b2
    have z2 := b2.size
    refine step_one (i := 1) (by kernel_rfl) rfl hreg (fun K hK => ?_)
    go_wp2_with fail
    refine Calls.mono (toRopeKind_any r0 _) ?_
    rintro _ w3 ⟨rfl, b3⟩
    replace hw := bw_trans hw b3
    have z3 := b3.size
    (try unfold R5.v)
    replace hreg := bw_trans hreg b3
    (try go_wp2)
    (try refine hK _ _ ?_)
    (try clear hK K)
    refine step_one (i := 3) (by kernel_rfl) rfl hreg (fun K hK => ?_)
    go_wp2_with fail
    refine Calls.mono (toDamageS_any A1 n1 c1 xs1 _ (ha1.below2 hw) hn1) ?_
    rintro _ w4 ⟨g4, rfl, q4, hB4, b4⟩
    replace hw := bw_trans hw b4
    have z4 := b4.size
    have u4 := hB4.lt
    have hO4 := hB4.own q4 u4
    replace hreg := bw_trans hreg b4
    (try go_wp2)
    (try refine hK _ _ ?_)
    (try clear hK K)
    refine step_one (i := 5) (by kernel_rfl) rfl hreg (fun K hK => ?_)
    go_wp2_with fail
    refine Calls.mono (toDamage_any r2 _) ?_
    rintro _ w5 ⟨rfl, b5⟩
    replace hO4 := hO4.below2 b5
    replace hw := bw_trans hw b5
    have z5 := b5.size
    replace hB4 := hB4.below2 b5
    (try unfold R3.v)
    replace hreg := bw_trans hreg b5
    (try go_wp2)
    (try refine hK _ _ ?_)
    (try clear hK K)
    refine step_one (i := 6) (by kernel_rfl) rfl hreg (fun K hK => ?_)
    go_wp2_with fail
    refine Calls.mono (s_AddDamage_c r0 g4 0 n1 n1 xs1 r2 _ hB4.reads hn1 hI rfl) ?_
    rintro _ w6 ⟨Ar6, m6, d6, rfl, hO6, l6, b6⟩
    replace hO4 := hO4.below2 b6
    replace hw := bw_trans hw b6
    have z6 := b6.size
    replace hB4 := hB4.below2 b6
    replace hreg := bw_trans hreg b6
    (try go_wp2)
    (try refine hK _ _ ?_)
    (try clear hK K)
    refine step_read (i := 7) (by kernel_rfl) (by kernel_rfl) rfl hreg rfl (fun K hK => ?_)
    apply Exists.intro
    refine ⟨fun x => ?_, ?_⟩
    · go_simp; (try rfl)
    go_simp; refine hK _ ?_; clear hK K
    refine step_read (i := 8) (by kernel_rfl) (by kernel_rfl) rfl hreg rfl (fun K hK => ?_)
    apply Exists.intro
    refine ⟨fun x => ?_, ?_⟩
    · go_simp; (try rfl)
    go_simp; refine hK _ ?_; clear hK K
    refine step_read (i := 9) (by kernel_rfl) (by kernel_rfl) rfl hreg rfl (fun K hK => ?_)
    apply Exists.intro
    refine ⟨fun x => ?_, ?_⟩
    · go_simp; (try rfl)
    go_simp; refine hK _ ?_; clear hK K
    refine step_read (i := 10) (by kernel_rfl) (by kernel_rfl) rfl hreg rfl (fun K hK => ?_)
    apply Exists.intro
    refine ⟨fun x => ?_, ?_⟩
    · go_simp; (try rfl)
    go_simp; refine hK _ ?_; clear hK K
    refine step_read (i := 11) (by kernel_rfl) (by kernel_rfl) rfl hreg rfl (fun K hK => ?_)
    apply Exists.intro
    refine ⟨fun x => ?_, ?_⟩
    · go_simp; (try rfl)
    go_simp; refine hK _ ?_; clear hK K
    refine step_end (by kernel_rfl) hreg ?_
    clear hreg
    go_wp2_with fail
    refine Calls.mono (toDamageS_any A1 n1 c1 xs1 _ (ha1.below2 hw) hn1) ?_
    rintro _ w7 ⟨g7, rfl, q7, hB7, b7⟩
    replace hO6 := hO6.below2 b7
    replace hw := bw_trans hw b7
    have z7 := b7.size
    have u7 := hB7.lt
    have hO7 := hB7.own q7 u7
    go_wp2_with fail
    (refine wp_region_C (Below (w7).heap.size (w7)) (by kernel_rfl) ?_)
    generalize hgd8 : w7.drew = w8
    have b8 : Below w7.heap.size w7 w8 := by rw [← hgd8]; exact (Below.refl _ _).drew
    clear hgd8
    have f0_0 : w7.cell? ⟨w.heap.size, 0, none⟩ = some (.int .i64 r0.a) := (hw.cell (p := ⟨_, _, none⟩) (by first | (simp; done) | (simp; omega))).trans (by simp [go_sem])
    have f0_1 : w7.cell? ⟨w.heap.size, 1, none⟩ = some (.int .i64 r0.b) := (hw.cell (p := ⟨_, _, none⟩) (by first | (simp; done) | (simp; omega))).trans (by simp [go_sem])
    have f0_2 : w7.cell? ⟨w.heap.size, 2, none⟩ = some (.int .i64 r0.c) := (hw.cell (p := ⟨_, _, none⟩) (by first | (simp; done) | (simp; omega))).trans (by simp [go_sem])
    have f0_3 : w7.cell? ⟨w.heap.size, 3, none⟩ = some (.int .i64 r0.d) := (hw.cell (p := ⟨_, _, none⟩) (by first | (simp; done) | (simp; omega))).trans (by simp [go_sem])
    have f0_4 : w7.cell? ⟨w.heap.size, 4, none⟩ = some (.int .i64 r0.e) := (hw.cell (p := ⟨_, _, none⟩) (by first | (simp; done) | (simp; omega))).trans (by simp [go_sem])
    have g0_ : w.heap.size < w7.heap.size := by have := hw.size; simp at this; omega
    have f2_0 : w7.cell? ⟨w.heap.size + 1, 0, none⟩ = some (.int .i64 r2.a) := (hw.cell (p := ⟨_, _, none⟩) (by first | (simp; done) | (simp; omega))).trans (by simp [go_sem])
    have f2_1 : w7.cell? ⟨w.heap.size + 1, 1, none⟩ = some (.int .i64 r2.b) := (hw.cell (p := ⟨_, _, none⟩) (by first | (simp; done) | (simp; omega))).trans (by simp [go_sem])
    have f2_2 : w7.cell? ⟨w.heap.size + 1, 2, none⟩ = some (.int .i64 r2.c) := (hw.cell (p := ⟨_, _, none⟩) (by first | (simp; done) | (simp; omega))).trans (by simp [go_sem])
    have g2_ : w.heap.size + 1 < w7.heap.size := by have := hw.size; simp at this; omega
    have hreg := b8
    refine step_read (i := 0) (by kernel_rfl) (by kernel_rfl) rfl hreg rfl (fun K hK => ?_)
    apply Exists.intro
    refine ⟨fun x => ?_, ?_⟩
    · go_simp; (try rfl)
    go_simp; refine hK _ ?_; clear hK K
    refine step_read (i := 2) (by kernel_rfl) (by kernel_rfl) rfl hreg rfl (fun K hK => ?_)
    apply Exists.intro
    refine ⟨fun x => ?_, ?_⟩
    · go_simp; (try rfl)
    go_simp; refine hK _ ?_; clear hK K
    refine step_read (i := 3) (by kernel_rfl) (by kernel_rfl) rfl hreg rfl (fun K hK => ?_)
    apply Exists.intro
    refine ⟨fun x => ?_, ?_⟩
    · go_simp; (try rfl)
    go_simp; refine hK _ ?_; clear hK K
    clear f0_0 f0_1 f0_2 f0_3 f0_4 g0_ f2_0 f2_1 f2_2 g2_
    replace hO6 := hO6.below2 b8
    replace hO7 := hO7.below2 b8
    replace hw := bw_trans hw b8
    have z8 := b8.size
    replace hB7 := hB7.below2 b8
    refine step_one (i := 1) (by kernel_rfl) rfl hreg (fun K hK => ?_)
    go_wp2_with fail
    refine Calls.mono (toRopeKind_any r0 _) ?_
    rintro _ w9 ⟨rfl, b9⟩
    replace hO6 := hO6.below2 b9
    replace hO7 := hO7.below2 b9
    replace hw := bw_trans hw b9
    have z9 := b9.size
    replace hB7 := hB7.below2 b9
    (try unfold R5.v)
    replace hreg := bw_trans hreg b9
    (try go_wp2)
    (try refine hK _ _ ?_)
    (try clear hK K)
    refine step_one (i := 4) (by kernel_rfl) rfl hreg (fun K hK => ?_)
    go_wp2_with fail
    refine Calls.mono (toDamage_any r2 _) ?_
    rintro _ w10 ⟨rfl, b10⟩
    replace hO6 := hO6.below2 b10
    replace hO7 := hO7.below2 b10
    replace hw := bw_trans hw b10
    have z10 := b10.size
    replace hB7 := hB7.below2 b10
    (try unfold R3.v)
    replace hreg := bw_trans hreg b10
    (try go_wp2)
    (try refine hK _ _ ?_)
    (try clear hK K)
    refine step_one (i := 5) (by kernel_rfl) rfl hreg (fun K hK => ?_)
    go_wp2_with fail
    refine Calls.mono (i_AddDamage_any r0 g7 0 n1 n1 xs1 r2 _ hB7.reads hn1) ?_
    rintro _ w11 ⟨Ar11, m11, d11, rfl, hO11, l11, b11⟩
    replace hO6 := hO6.below2 b11
    replace hO7 := hO7.below2 b11
    replace hw := bw_trans hw b11
    have z11 := b11.size
    replace hB7 := hB7.below2 b11
    replace hreg := bw_trans hreg b11
    (try go_wp2)
    (try refine hK _ _ ?_)
    (try clear hK K)
    refine step_read (i := 6) (by kernel_rfl) (by kernel_rfl) rfl hreg rfl (fun K hK => ?_)
    apply Exists.intro
    refine ⟨fun x => ?_, ?_⟩
    · go_simp; (try rfl)
    go_simp; refine hK _ ?_; clear hK K
    refine step_read (i := 7) (by kernel_rfl) (by kernel_rfl) rfl hreg rfl (fun K hK => ?_)
    apply Exists.intro
    refine ⟨fun x => ?_, ?_⟩
    · go_simp; (try rfl)
    go_simp; refine hK _ ?_; clear hK K
    refine step_read (i := 8) (by kernel_rfl) (by kernel_rfl) rfl hreg rfl (fun K hK => ?_)
    apply Exists.intro
    refine ⟨fun x => ?_, ?_⟩
    · go_simp; (try rfl)
    go_simp; refine hK _ ?_; clear hK K
    refine step_read (i := 9) (by kernel_rfl) (by kernel_rfl) rfl hreg rfl (fun K hK => ?_)
    apply Exists.intro
    refine ⟨fun x => ?_, ?_⟩
    · go_simp; (try rfl)
    go_simp; refine hK _ ?_; clear hK K
    refine step_read (i := 10) (by kernel_rfl) (by kernel_rfl) rfl hreg rfl (fun K hK => ?_)
    apply Exists.intro
    refine ⟨fun x => ?_, ?_⟩
    · go_simp; (try rfl)
    go_simp; refine hK _ ?_; clear hK K
    refine step_end (by kernel_rfl) hreg ?_
    clear hreg
    go_wp2_with fail
    refine Calls.mono (eqDamageS_any _ _ m11 m6 d11 d6 _ _ _ hO11.reads hO6.reads l11 l6) ?_
    rintro _ w12 ⟨rfl, b12⟩
    replace hO6 := hO6.below2 b12
    replace hO7 := hO7.below2 b12
    replace hO11 := hO11.below2 b12
    replace hw := bw_trans hw b12
    have z12 := b12.size
    go_wp2_with fail
    refine Calls.mono (toDamageS_any A1 n1 c1 xs1 _ (ha1.below2 hw) hn1) ?_
    rintro _ w13 ⟨g13, rfl, q13, hB13, b13⟩
    replace hO6 := hO6.below2 b13
    replace hO7 := hO7.below2 b13
    replace hO11 := hO11.below2 b13
    replace hw := bw_trans hw b13
    have z13 := b13.size
    have u13 := hB13.lt
    have hO13 := hB13.own q13 u13
    go_wp2_with fail
    refine Calls.mono (eqDamageS_any _ _ n1 n1 n1 n1 xs1 xs1 _ hO7.reads hO13.reads hn1 hn1) ?_
    rintro _ w14 ⟨rfl, b14⟩
    replace hO6 := hO6.below2 b14
    replace hO7 := hO7.below2 b14
    replace hO11 := hO11.below2 b14
    replace hO13 := hO13.below2 b14
    replace hw := bw_trans hw b14
    have z14 := b14.size
    go_wp2_with fail
    refine Calls.mono (markDamageS_any _ _ _ n1 n1 1 _ _ hO7 hn1 (by omega) (by omega)) ?_
    rintro _ w15 ⟨rfl, hO7, t15⟩
    replace hO6 := hO6.tch t15 (by omega) (by omega)
    replace hO11 := hO11.tch t15 (by omega) (by omega)
    replace hw := hw.trans (t15.below (B := ((w.alloc (.cells #[.int .i64 r0.a, .int .i64 r0.b, .int .i64 r0.c, .int .i64 r0.d, .int .i64 r0.e] 23)).alloc (.cells #[.int .i64 r2.a, .int .i64 r2.b, .int .i64 r2.c] 56)).heap.size) (by omega) (by omega))
    have z15 := t15.size
    go_wp2_with fail
    refine Calls.mono (eqDamageS_any _ _ m11 m6 d11 d6 _ _ _ hO11.reads hO6.reads l11 l6) ?_
    rintro _ w16 ⟨rfl, b16⟩
    replace hO6 := hO6.below2 b16
    replace hO11 := hO11.below2 b16
    replace hw := bw_trans hw b16
    have z16 := b16.size
    go_wp2_with fail
    refine Calls.mono (markDamageS_any _ _ _ m11 d11 1 _ _ hO11 l11 (by omega) (by omega)) ?_
    rintro _ w17 ⟨rfl, hO11, t17⟩
    replace hO6 := hO6.tch t17 (by omega) (by omega)
    replace hw := hw.trans (t17.below (B := ((w.alloc (.cells #[.int .i64 r0.a, .int .i64 r0.b, .int .i64 r0.c, .int .i64 r0.d, .int .i64 r0.e] 23)).alloc (.cells #[.int .i64 r2.a, .int .i64 r2.b, .int .i64 r2.c] 56)).heap.size) (by omega) (by omega))
    have z17 := t17.size
    go_wp2_with fail
    refine Calls.mono (heldDamageS_any _ m11 d11 1 _ hO11.reads l11 (by omega) (by omega)) ?_
    rintro _ w18 ⟨rfl, b18⟩
    replace hO6 := hO6.below2 b18
    replace hO11 := hO11.below2 b18
    replace hw := bw_trans hw b18
    have z18 := b18.size
    go_wp2_with fail
    (refine wp_region_C (Below (w18).heap.size (w18)) (by kernel_rfl) ?_)
    generalize hgd19 : w18.drew = w19
    have b19 : Below w18.heap.size w18 w19 := by rw [← hgd19]; exact (Below.refl _ _).drew
    clear hgd19
    have f0_0 : w18.cell? ⟨w.heap.size, 0, none⟩ = some (.int .i64 r0.a) := (hw.cell (p := ⟨_, _, none⟩) (by first | (simp; done) | (simp; omega))).trans (by simp [go_sem])
    have f0_1 : w18.cell? ⟨w.heap.size, 1, none⟩ = some (.int .i64 r0.b) := (hw.cell (p := ⟨_, _, none⟩) (by first | (simp; done) | (simp; omega))).trans (by simp [go_sem])
    have f0_2 : w18.cell? ⟨w.heap.size, 2, none⟩ = some (.int .i64 r0.c) := (hw.cell (p := ⟨_, _, none⟩) (by first | (simp; done) | (simp; omega))).trans (by simp [go_sem])
    have f0_3 : w18.cell? ⟨w.heap.size, 3, none⟩ = some (.int .i64 r0.d) := (hw.cell (p := ⟨_, _, none⟩) (by first | (simp; done) | (simp; omega))).trans (by simp [go_sem])
    have f0_4 : w18.cell? ⟨w.heap.size, 4, none⟩ = some (.int .i64 r0.e) := (hw.cell (p := ⟨_, _, none⟩) (by first | (simp; done) | (simp; omega))).trans (by simp [go_sem])
    have g0_ : w.heap.size < w18.heap.size := by have := hw.size; simp at this; omega
    have f2_0 : w18.cell? ⟨w.heap.size + 1, 0, none⟩ = some (.int .i64 r2.a) := (hw.cell (p := ⟨_, _, none⟩) (by first | (simp; done) | (simp; omega))).trans (by simp [go_sem])
    have f2_1 : w18.cell? ⟨w.heap.size + 1, 1, none⟩ = some (.int .i64 r2.b) := (hw.cell (p := ⟨_, _, none⟩) (by first | (simp; done) | (simp; omega))).trans (by simp [go_sem])
    have f2_2 : w18.cell? ⟨w.heap.size + 1, 2, none⟩ = some (.int .i64 r2.c) := (hw.cell (p := ⟨_, _, none⟩) (by first | (simp; done) | (simp; omega))).trans (by simp [go_sem])
    have g2_ : w.heap.size + 1 < w18.heap.size := by have := hw.size; simp at this; omega
    have hreg := b19
    refine step_read (i := 0) (by kernel_rfl) (by kernel_rfl) rfl hreg rfl (fun K hK => ?_)
    apply Exists.intro
    refine ⟨fun x => ?_, ?_⟩
    · go_simp; (try rfl)
    go_simp; refine hK _ ?_; clear hK K
    refine step_read (i := 2) (by kernel_rfl) (by kernel_rfl) rfl hreg rfl (fun K hK => ?_)
    apply Exists.intro
    refine ⟨fun x => ?_, ?_⟩
    · go_simp; (try rfl)
    go_simp; refine hK _ ?_; clear hK K
    refine step_read (i := 4) (by kernel_rfl) (by kernel_rfl) rfl hreg rfl (fun K hK => ?_)
    apply Exists.intro
    refine ⟨fun x => ?_, ?_⟩
    · go_simp; (try rfl)
    go_simp; refine hK _ ?_; clear hK K
    clear f0_0 f0_1 f0_2 f0_3 f0_4 g0_ f2_0 f2_1 f2_2 g2_
    replace hO6 := hO6.below2 b19
    replace hO11 := hO11.below2 b19
    replace hw := bw_trans hw b19
    have z19 := b19.size
    refine step_one (i := 1) (by kernel_rfl) rfl hreg (fun K hK => ?_)
    go_wp2_with fail
    refine Calls.mono (toRopeKind_any r0 _) ?_
    rintro _ w20 ⟨rfl, b20⟩
    replace hO6 := hO6.below2 b20
    replace hO11 := hO11.below2 b20
    replace hw := bw_trans hw b20
    have z20 := b20.size
    (try unfold R5.v)
    replace hreg := bw_trans hreg b20
    (try go_wp2)
    (try refine hK _ _ ?_)
    (try clear hK K)
    refine step_one (i := 3) (by kernel_rfl) rfl hreg (fun K hK => ?_)
    go_wp2_with fail
    refine Calls.mono (toDamageS_any A1 n1 c1 xs1 _ (ha1.below2 hw) hn1) ?_
    rintro _ w21 ⟨g21, rfl, q21, hB21, b21⟩
    replace hO6 := hO6.below2 b21
    replace hO11 := hO11.below2 b21
    replace hw := bw_trans hw b21
    have z21 := b21.size
    have u21 := hB21.lt
    have hO21 := hB21.own q21 u21
    replace hreg := bw_trans hreg b21
    (try go_wp2)
    (try refine hK _ _ ?_)
    (try clear hK K)
    refine step_one (i := 5) (by kernel_rfl) rfl hreg (fun K hK => ?_)
    go_wp2_with fail
    refine Calls.mono (toDamage_any r2 _) ?_
    rintro _ w22 ⟨rfl, b22⟩
    replace hO6 := hO6.below2 b22
    replace hO11 := hO11.below2 b22
    replace hO21 := hO21.below2 b22
    replace hw := bw_trans hw b22
    have z22 := b22.size
    replace hB21 := hB21.below2 b22
    (try unfold R3.v)
    replace hreg := bw_trans hreg b22
    (try go_wp2)
    (try refine hK _ _ ?_)
    (try clear hK K)
    refine step_one (i := 6) (by kernel_rfl) rfl hreg (fun K hK => ?_)
    go_wp2_with fail
    refine Calls.mono (i_AddDamage_any r0 g21 0 n1 n1 xs1 r2 _ hB21.reads hn1) ?_
    rintro _ w23 ⟨Ar23, m23, d23, rfl, hO23, l23, b23⟩
    replace hO6 := hO6.below2 b23
    replace hO11 := hO11.below2 b23
    replace hO21 := hO21.below2 b23
    replace hw := bw_trans hw b23
    have z23 := b23.size
    replace hB21 := hB21.below2 b23
    replace hreg := bw_trans hreg b23
    (try go_wp2)
    (try refine hK _ _ ?_)
    (try clear hK K)
    refine step_read (i := 7) (by kernel_rfl) (by kernel_rfl) rfl hreg rfl (fun K hK => ?_)
    apply Exists.intro
    refine ⟨fun x => ?_, ?_⟩
    · go_simp; (try rfl)
    go_simp; refine hK _ ?_; clear hK K
    refine step_read (i := 8) (by kernel_rfl) (by kernel_rfl) rfl hreg rfl (fun K hK => ?_)
    apply Exists.intro
    refine ⟨fun x => ?_, ?_⟩
    · go_simp; (try rfl)
    go_simp; refine hK _ ?_; clear hK K
    refine step_read (i := 9) (by kernel_rfl) (by kernel_rfl) rfl hreg rfl (fun K hK => ?_)
    apply Exists.intro
    refine ⟨fun x => ?_, ?_⟩
    · go_simp; (try rfl)
    go_simp; refine hK _ ?_; clear hK K
    refine step_read (i := 10) (by kernel_rfl) (by kernel_rfl) rfl hreg rfl (fun K hK => ?_)
    apply Exists.intro
    refine ⟨fun x => ?_, ?_⟩
    · go_simp; (try rfl)
    go_simp; refine hK _ ?_; clear hK K
    refine step_read (i := 11) (by kernel_rfl) (by kernel_rfl) rfl hreg rfl (fun K hK => ?_)
    apply Exists.intro
    refine ⟨fun x => ?_, ?_⟩
    · go_simp; (try rfl)
    go_simp; refine hK _ ?_; clear hK K
    refine step_end (by kernel_rfl) hreg ?_
    clear hreg
    go_wp2_with fail
    refine Calls.mono (eqDamageS_any _ _ m23 m6 d23 d6 _ _ _ hO23.reads hO6.reads l23 l6) ?_
    rintro _ w24 ⟨rfl, b24⟩
    replace hO6 := hO6.below2 b24
    replace hO11 := hO11.below2 b24
    replace hO23 := hO23.below2 b24
    replace hw := bw_trans hw b24
    have z24 := b24.size
    go_wp2_with fail
    refine Calls.mono (heldDamageS_any _ m11 d11 1 _ hO11.reads l11 (by omega) (by omega)) ?_
    rintro _ w25 ⟨rfl, b25⟩
    replace hO6 := hO6.below2 b25
    replace hO11 := hO11.below2 b25
    replace hO23 := hO23.below2 b25
    replace hw := bw_trans hw b25
    have z25 := b25.size
    go_wp2_with fail
    go_ret
    exact ⟨rfl, bw_trans (bw_alloc (bw_alloc (Below.refl _ _) _) _) hw⟩
end Go.Proofs.Ytagplkdeallbmaa
