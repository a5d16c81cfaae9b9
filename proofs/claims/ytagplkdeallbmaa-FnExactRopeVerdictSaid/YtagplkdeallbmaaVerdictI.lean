/- What is to be done with a rope: the program, the law. -/
import Derived.Test.YtagplkdeallbmaaVerdict
namespace Go.Proofs.Ytagplkdeallbmaa
open Go.RowKit
theorem settleC {P : Program} {f : FuncId} {args : Array Value} {R : Ending → World → Prop} {w0 W : World} {F : World → Prop} (hb : Below w0.heap.size w0 W) (hF : F W) (h : ∀ W3, Below w0.heap.size w0 W3 → F W3 → Calls P f args W3 R) : Calls P f args W R := h W hb hF
set_option maxHeartbeats 4000000 in
theorem i_RopeVerdict_any (k : R5) (g off n c : Nat) (xs : List R3) (w : World) (hs : SR3 w g off n xs) (hn : n ≤ 1048576) : Gv Try.prog 37 #[k.v, .slice (some ⟨g, off, none⟩) n c] w (.tuple #[.string ((verdF k xs)).1, .bool ((verdF k xs)).2]) := by
  unfold Gv
  cases h0 : okDam k xs
  · have hfin := Lib.hid (show verdF k xs = (⟨#[]⟩, false) by simp [verdF, h0])
    unfold R5.v
    go_enter Try.func37, Try.ntmps37
    go_wp2_with (first | (go_at_call 28; (first | refine (impl_AreDamages_any k g off n c xs _ ((hs.alloc _).alloc _) hn).onL ?_ | refine (impl_AreDamages_any k g off n c xs _ ((hs.alloc _).alloc _) hn).on ?_); intro xq))
    all_goals (go_ret2; exact ⟨by rw [hfin.out]; try rfl, (by repeat (with_reducible first | exact Below.refl _ _ | refine bw_later ?_ _ | refine bw_alloc ?_ _ | refine bw_drew ?_ | refine bw_set ?_ (Nat.le_refl _) _ | refine bw_set ?_ ?_ _ | exact Nat.le_refl _ | exact later_size _ _ | refine Nat.le_trans ?_ (later_size _ _) | refine Nat.le_trans ?_ (size_alloc_le _ _) | refine Nat.le_trans ?_ (Nat.le_add_right _ _)))⟩)
  have hx := Lib.hid (wires_of h0)
  have h15 : n ≤ 15 := by have := (okDam_t h0).2.1; have := hs.2.1; omega
  obtain ⟨-, ⟨b1, b2⟩, ⟨c1, c2⟩, -, -⟩ := kind_bd (okDam_t h0).1
  have hle := Lib.hid hs.2.1
  obtain ⟨ka, kb, kc, kd, ke⟩ := k
  simp only at b1 b2 c1 c2
  obtain ⟨m, rfl⟩ := Int.eq_ofNat_of_zero_le (show 0 ≤ kb by omega)
  obtain ⟨p0, p1⟩ := prod_bd (a := (m : Int)) (b := kc) (A := 8) (B := 40) (by omega) b2 (by omega) c2
  have hQ1 := (worst_bd (m := 0) (l := 10) (st := -1) hx.out (by omega) (by omega) (by rw [hs.2.1]; exact h15) n).2.1
  have hQ0 := worst_ge (l := 10) (st := -1) hx.out n
  have hL1 := (worst_bd (m := 0) (l := 100) (st := -1) hx.out (by omega) (by omega) (by rw [hs.2.1]; exact h15) n).2.1
  have hL0 := worst_ge (l := 100) (st := -1) hx.out n
  have hfin := Lib.hid (show verdF ⟨ka, (m : Int), kc, kd, ke⟩ xs = (if vMany ⟨ka, (m : Int), kc, kd, ke⟩ xs 10 || vAny ⟨ka, (m : Int), kc, kd, ke⟩ xs m then (⟨#[114, 101, 112, 108, 97, 99, 101]⟩, true) else if vMany ⟨ka, (m : Int), kc, kd, ke⟩ xs 100 then (⟨#[119, 97, 116, 99, 104]⟩, true) else (⟨#[103, 111, 111, 100]⟩, true)) by rw [verdF, if_pos h0]; rfl)
  have hO : Hid (∀ s : Nat, vOne ⟨ka, (m : Int), kc, kd, ke⟩ xs s = decide (kc < 2 * (worstTo 0 10 (s : Int) xs n).2)) := Lib.hid fun s => by rw [vOne, hle.out]
  have hM : Hid (∀ l, vMany ⟨ka, (m : Int), kc, kd, ke⟩ xs l = decide ((m : Int) * kc < 20 * (worstTo 0 l (-1) xs n).2)) := Lib.hid fun s => by rw [vMany, hle.out]
  have hS1 : Hid (∀ s : Nat, 0 ≤ (worstTo 0 10 (s : Int) xs n).2 ∧ (worstTo 0 10 (s : Int) xs n).2 ≤ 600) := Lib.hid fun s => ⟨worst_ge hx.out n, (worst_bd (m := 0) (l := 10) (st := (s : Int)) hx.out (by omega) (by omega) (by rw [hle.out]; exact h15) n).2.1⟩
  have hK := Lib.hid (show vAny ⟨ka, (m : Int), kc, kd, ke⟩ xs 0 = false from rfl)
  have hKs : Hid (∀ s, vAny ⟨ka, (m : Int), kc, kd, ke⟩ xs (s + 1) = (vAny ⟨ka, (m : Int), kc, kd, ke⟩ xs s || vOne ⟨ka, (m : Int), kc, kd, ke⟩ xs s)) := Lib.hid fun s => rfl
  have hUp : Hid (∀ s, s ≤ m → vAny ⟨ka, (m : Int), kc, kd, ke⟩ xs s = true → vAny ⟨ka, (m : Int), kc, kd, ke⟩ xs m = true) := Lib.hid fun s h1 h2 => vAny_up h2 h1
  unfold R5.v
  have hcG : Hid (∀ w, SR3 w g off n xs → _) := Lib.hid fun w h => impl_AreDamages_any ⟨ka, (m : Int), kc, kd, ke⟩ g off n c xs w h hn
  have hg := hs.1
  go_enter Try.func37, Try.ntmps37
  go_wp2_with (first | (go_at_call 28; refine (hcG.out _ ((hs.alloc _).alloc _)).on ?_; intro xa; clear hcG; have hge : w.heap.size < (later ((w.alloc (.cells #[.int .i64 ka, .int .i64 (m : Int), .int .i64 kc, .int .i64 kd, .int .i64 ke] 25)).alloc (.cells #[.slice (some ⟨g, off, none⟩) n c] 43)) xa).heap.size := lt_later _ xa _ (by simp; try omega); have hge1 : w.heap.size + 1 < (later ((w.alloc (.cells #[.int .i64 ka, .int .i64 (m : Int), .int .i64 kc, .int .i64 kd, .int .i64 ke] 25)).alloc (.cells #[.slice (some ⟨g, off, none⟩) n c] 43)) xa).heap.size := lt_later _ xa _ (by simp; try omega)) | (go_at_call 59; refine settleC (w0 := w) (F := fun W => SR3 W g off n xs ∧ W.cell? ⟨w.heap.size + 1, 0, none⟩ = some (.slice (some ⟨g, off, none⟩) n c) ∧ W.cell? ⟨w.heap.size, 1, none⟩ = some (.int .i64 (m : Int)) ∧ W.cell? ⟨w.heap.size, 2, none⟩ = some (.int .i64 kc) ∧ W.cell? ⟨(later ((w.alloc (.cells #[.int .i64 ka, .int .i64 (m : Int), .int .i64 kc, .int .i64 kd, .int .i64 ke] 25)).alloc (.cells #[.slice (some ⟨g, off, none⟩) n c] 43)) xa).heap.size, 0, none⟩ = some (.int .i64 ((m : Int) * kc)) ∧ w.heap.size < W.heap.size ∧ w.heap.size + 1 < W.heap.size) (by repeat (with_reducible first | exact Below.refl _ _ | refine bw_later ?_ _ | refine bw_alloc ?_ _ | refine bw_drew ?_ | refine bw_set ?_ (Nat.le_refl _) _ | refine bw_set ?_ ?_ _ | exact Nat.le_refl _ | exact later_size _ _ | refine Nat.le_trans ?_ (later_size _ _) | refine Nat.le_trans ?_ (size_alloc_le _ _) | refine Nat.le_trans ?_ (Nat.le_add_right _ _))) ?_ ?_))
  · exact ⟨(((hs.alloc _).alloc _).later _).alloc _, by go_simp, by go_simp, by go_simp, by go_simp, by go_simp, by go_simp⟩
  intro w3 hb3 ⟨hs3, hD3, hm3, hc3, hA3, l0, l1⟩
  generalize (later ((w.alloc (.cells #[.int .i64 ka, .int .i64 (m : Int), .int .i64 kc, .int .i64 kd, .int .i64 ke] 25)).alloc (.cells #[.slice (some ⟨g, off, none⟩) n c] 43)) xa).heap.size = gA at hA3 ⊢
  have hgA := World.block_lt_of_cell? w3 _ hA3
  simp only at hgA
  have hg3 := hs3.1
  clear hge hge1 h0
  refine (many_any ka (m : Int) kc kd ke g off n c (w.heap.size + 1) gA xs 10 w3 hs3 h15 hx.out (by omega) (by omega) hD3 hA3).on ?_
  intro x10
  have hMN := Lib.hid (rfl : vMany ⟨ka, (m : Int), kc, kd, ke⟩ xs 10 = vMany ⟨ka, (m : Int), kc, kd, ke⟩ xs 10)
  generalize hv : vMany ⟨ka, (m : Int), kc, kd, ke⟩ xs 10 = v10 at hfin ⊢
  clear hMN hM hQ1 hQ0 hL0 hL1
  have Hv := Lib.hid hv
  clear hv
  go_wp2
  go_loopw [8, 26] (fun r i wr => ∃ (s : Nat) (r0 : Bool), Below w3.heap.size w3 wr ∧ s ≤ m ∧ i = .int .i64 (s : Int) ∧ r = .bool r0 ∧ Hid (r0 = (v10 || vAny ⟨ka, (m : Int), kc, kd, ke⟩ xs s))) (fun _ i _ => m - (intOf i).toNat)
  case atStart => exact ⟨0, v10, (by repeat (with_reducible first | exact Below.refl _ _ | refine bw_later ?_ _ | refine bw_alloc ?_ _ | refine bw_drew ?_ | refine bw_set ?_ (Nat.le_refl _) _ | refine bw_set ?_ ?_ _ | exact Nat.le_refl _ | exact later_size _ _ | refine Nat.le_trans ?_ (later_size _ _) | refine Nat.le_trans ?_ (size_alloc_le _ _) | refine Nat.le_trans ?_ (Nat.le_add_right _ _))), by omega, rfl, rfl, Lib.hid (by rw [hK.out, Bool.or_false])⟩
  case round =>
    obtain ⟨s, r0, hbw, hsm, rfl, rfl, hr⟩ := hrel
    obtain ⟨y, rfl⟩ := exists_later hbw
    clear hbw
    by_cases hlt : s < m
    · have ho := hO.out s
      obtain ⟨z0, z1⟩ := hS1.out s
      cases hp : vOne ⟨ka, (m : Int), kc, kd, ke⟩ xs s
      all_goals
        rw [hp] at ho
        have hoo := ho.symm
        clear ho
        have HP := Lib.hid hp
        clear hp
        cases r0
        all_goals
          go_wp2_with (go_at_call 57; (first | refine (i_worst_any g off n c xs 10 (s : Int) _ (by first | exact hs3 | exact hs3.later _) h15 hx.out (by omega) (by omega)).onL ?_ | refine (i_worst_any g off n c xs 10 (s : Int) _ (by first | exact hs3 | exact hs3.later _) h15 hx.out (by omega) (by omega)).on ?_); intro xq)
          go_roundw
          case rel => exact ⟨s + 1, _, (by repeat (with_reducible first | exact Below.refl _ _ | refine bw_later ?_ _ | refine bw_alloc ?_ _ | refine bw_drew ?_ | refine bw_set ?_ (Nat.le_refl _) _ | refine bw_set ?_ ?_ _ | exact Nat.le_refl _ | exact later_size _ _ | refine Nat.le_trans ?_ (later_size _ _) | refine Nat.le_trans ?_ (size_alloc_le _ _) | refine Nat.le_trans ?_ (Nat.le_add_right _ _))), by omega, by go_num, rfl, Lib.hid (by rw [hKs.out, ← Bool.or_assoc, ← hr.out, HP.out]; rfl)⟩
          case measure => simp [intOf]; omega
    · obtain rfl : m = s := by omega
      cases r0
      · have e1 := hr.out.symm
        have HH := Lib.hid hfin.out
        rw [e1] at HH
        cases h100 : vMany ⟨ka, (m : Int), kc, kd, ke⟩ xs 100
        all_goals
          rw [h100] at HH
          go_wp2_with (go_at_call 59; refine (show Gv _ _ _ _ (.bool _) from (h100 ▸ many_any ka (m : Int) kc kd ke g off n c (w.heap.size + 1) gA xs 100 _ (hs3.later _) h15 hx.out (by omega) (by omega) (by go_simp) (by go_simp))).on ?_; intro xq)
          go_ret2
          exact ⟨by rw [HH.out]; rfl, (by repeat (with_reducible first | exact hb3 | exact Below.refl _ _ | refine bw_later ?_ _ | refine bw_alloc ?_ _ | refine bw_drew ?_))⟩
      · have e1 := hr.out.symm
        have HH := Lib.hid hfin.out
        rw [e1] at HH
        go_wp2
        go_ret2
        exact ⟨by rw [HH.out]; rfl, (by repeat (with_reducible first | exact hb3 | exact Below.refl _ _ | refine bw_later ?_ _ | refine bw_alloc ?_ _ | refine bw_drew ?_))⟩
theorem law_RopeVerdict (r0 : R5) (A1 : Option Addr) (n1 c1 : Nat) (xs1 : List R3) (w : World) (rd1 : AR3 w A1 n1 xs1 ∧ n1 ≤ 9223372036854775807) : Gv Try.prog 11 #[r0.v, .slice A1 n1 c1] w (.bool true) := by
  obtain ⟨ha1, hm1⟩ := rd1
  replace ha1 := ha1.below2 (w' := (w.alloc (.cells #[.int .i64 r0.a, .int .i64 r0.b, .int .i64 r0.c, .int .i64 r0.d, .int .i64 r0.e] 23))) (bw_alloc (Below.refl _ _) _)
  unfold Gv
  unfold R5.v
  by_cases k1 : 1048576 < n1
  · have z1 : szF n1 ((1048576 : Int)) = -1 := by unfold szF; rw [if_pos (by omega)]
    go_enter Try.func11, Try.ntmps11
    go_wp2_with fail
    refine Calls.mono (szDamage_any A1 n1 c1 ((1048576 : Int)) hm1 (by omega) (by omega) _) ?_
    rintro _ w1 ⟨rfl, b1⟩
    have hw := b1
    rw [z1]
    clear z1
    go_wp2_with fail
    go_ret
    exact ⟨rfl, bw_trans (bw_alloc (Below.refl _ _) _) hw⟩
  · have hn1 : n1 ≤ 1048576 := by omega
    have z1 : szF n1 ((1048576 : Int)) = (1048576 : Int) - (n1 : Int) := by unfold szF; rw [if_neg (by omega)]
    go_enter Try.func11, Try.ntmps11
    go_wp2_with fail
    refine Calls.mono (szDamage_any A1 n1 c1 ((1048576 : Int)) hm1 (by omega) (by omega) _) ?_
    rintro _ w1 ⟨rfl, b1⟩
    replace ha1 := ha1.below2 b1
    have hw := b1
    rw [z1]
    clear z1
    have e0 : w1.cell? ⟨w.heap.size, 0, none⟩ = some (.int .i64 r0.a) := (hw.cell (p := ⟨_, _, none⟩) (by simp)).trans (by simp [go_sem])
    have e1 : w1.cell? ⟨w.heap.size, 1, none⟩ = some (.int .i64 r0.b) := (hw.cell (p := ⟨_, _, none⟩) (by simp)).trans (by simp [go_sem])
    have e2 : w1.cell? ⟨w.heap.size, 2, none⟩ = some (.int .i64 r0.c) := (hw.cell (p := ⟨_, _, none⟩) (by simp)).trans (by simp [go_sem])
    have e3 : w1.cell? ⟨w.heap.size, 3, none⟩ = some (.int .i64 r0.d) := (hw.cell (p := ⟨_, _, none⟩) (by simp)).trans (by simp [go_sem])
    have e4 : w1.cell? ⟨w.heap.size, 4, none⟩ = some (.int .i64 r0.e) := (hw.cell (p := ⟨_, _, none⟩) (by simp)).trans (by simp [go_sem])
    go_wp2_with fail
    refine Calls.mono (toRopeKind_any r0 _) ?_
    rintro _ w2 ⟨rfl, b2⟩
    replace ha1 := ha1.below2 b2
    replace hw := bw_trans hw b2
    unfold R5.v
    clear e0 e1 e2 e3 e4
    go_wp2_with fail
    refine Calls.mono (toDamageS_any A1 n1 c1 xs1 _ ha1 hn1) ?_
    rintro _ w3 ⟨g3, rfl, q3, hB3, b3⟩
    replace ha1 := ha1.below2 b3
    replace hw := bw_trans hw b3
    go_wp2_with fail
    refine Calls.mono (s_RopeVerdict_any r0 g3 0 n1 n1 xs1 _ hB3.reads hn1) ?_
    rintro _ w4 ⟨rfl, b4⟩
    replace ha1 := ha1.below2 b4
    replace hB3 := hB3.below2 b4
    replace hw := bw_trans hw b4
    go_wp2_with fail
    refine Calls.mono (toDamageS_any A1 n1 c1 xs1 _ ha1 hn1) ?_
    rintro _ w5 ⟨g5, rfl, q5, hB5, b5⟩
    replace ha1 := ha1.below2 b5
    replace hB3 := hB3.below2 b5
    replace hw := bw_trans hw b5
    have e0 : w5.cell? ⟨w.heap.size, 0, none⟩ = some (.int .i64 r0.a) := (hw.cell (p := ⟨_, _, none⟩) (by simp)).trans (by simp [go_sem])
    have e1 : w5.cell? ⟨w.heap.size, 1, none⟩ = some (.int .i64 r0.b) := (hw.cell (p := ⟨_, _, none⟩) (by simp)).trans (by simp [go_sem])
    have e2 : w5.cell? ⟨w.heap.size, 2, none⟩ = some (.int .i64 r0.c) := (hw.cell (p := ⟨_, _, none⟩) (by simp)).trans (by simp [go_sem])
    have e3 : w5.cell? ⟨w.heap.size, 3, none⟩ = some (.int .i64 r0.d) := (hw.cell (p := ⟨_, _, none⟩) (by simp)).trans (by simp [go_sem])
    have e4 : w5.cell? ⟨w.heap.size, 4, none⟩ = some (.int .i64 r0.e) := (hw.cell (p := ⟨_, _, none⟩) (by simp)).trans (by simp [go_sem])
    go_wp2_with fail
    refine Calls.mono (toRopeKind_any r0 _) ?_
    rintro _ w6 ⟨rfl, b6⟩
    replace ha1 := ha1.below2 b6
    replace hB3 := hB3.below2 b6
    replace hB5 := hB5.below2 b6
    replace hw := bw_trans hw b6
    unfold R5.v
    clear e0 e1 e2 e3 e4
    go_wp2_with fail
    refine Calls.mono (i_RopeVerdict_any r0 g5 0 n1 n1 xs1 _ hB5.reads hn1) ?_
    rintro _ w7 ⟨rfl, b7⟩
    replace ha1 := ha1.below2 b7
    replace hB3 := hB3.below2 b7
    replace hB5 := hB5.below2 b7
    replace hw := bw_trans hw b7
    go_wp2_with fail
    refine Calls.mono (toDamageS_any A1 n1 c1 xs1 _ ha1 hn1) ?_
    rintro _ w8 ⟨g8, rfl, q8, hB8, b8⟩
    replace ha1 := ha1.below2 b8
    replace hB3 := hB3.below2 b8
    replace hB5 := hB5.below2 b8
    replace hw := bw_trans hw b8
    go_wp2_with fail
    refine Calls.mono (eqDamageS_any _ _ n1 n1 n1 n1 xs1 xs1 _ (AR3.of hB5.reads) (AR3.of hB8.reads) hn1 hn1) ?_
    rintro _ w9 ⟨rfl, b9⟩
    replace ha1 := ha1.below2 b9
    replace hB3 := hB3.below2 b9
    replace hB5 := hB5.below2 b9
    replace hB8 := hB8.below2 b9
    replace hw := bw_trans hw b9
    go_wp2_with fail
    go_ret
    exact ⟨rfl, bw_trans (bw_alloc (Below.refl _ _) _) hw⟩
end Go.Proofs.Ytagplkdeallbmaa
