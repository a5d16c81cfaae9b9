/- What is to be done with a rope. -/
import Derived.Test.YtagplkdeallbmaaWorstLaw
namespace Go.Proofs.Ytagplkdeallbmaa
open Go.RowKit
def vMany (k : R5) (xs : List R3) (l : Int) : Bool := decide (k.b * k.c < 20 * (worstTo 0 l (-1) xs xs.length).2)
def vOne (k : R5) (xs : List R3) (s : Nat) : Bool := decide (k.c < 2 * (worstTo 0 10 (s : Int) xs xs.length).2)
def vAny (k : R5) (xs : List R3) : Nat → Bool
  | 0 => false
  | s + 1 => vAny k xs s || vOne k xs s
theorem vAny_up {k : R5} {xs : List R3} {s m : Nat} (h : vAny k xs s = true) (hs : s ≤ m) : vAny k xs m = true := by
  induction m with
  | zero => obtain rfl : s = 0 := by omega
            exact h
  | succ m ih =>
    rcases Nat.lt_or_ge s (m + 1) with h1 | h1
    · simp [vAny, ih (by omega)]
    · obtain rfl : s = m + 1 := by omega
      exact h
def verdF (k : R5) (xs : List R3) : ByteArray × Bool :=
  if okDam k xs then (if vMany k xs 10 || vAny k xs k.b.toNat then (⟨#[114, 101, 112, 108, 97, 99, 101]⟩, true) else if vMany k xs 100 then (⟨#[119, 97, 116, 99, 104]⟩, true) else (⟨#[103, 111, 111, 100]⟩, true)) else (⟨#[]⟩, false)
theorem worst_ge {l st : Int} {xs : List R3} (hx : Wires xs) (k : Nat) : 0 ≤ (worstTo 0 l st xs k).2 := by
  have := (worst_most (l := l) (st := st) hx k).1
  omega
theorem many_any (ka kb kc kd ke : Int) (g off n c gD gA : Nat) (xs : List R3) (l : Int) (w : World) (hs : SR3 w g off n xs) (h15 : n ≤ 15) (hx : Wires xs) (l0 : 1 ≤ l) (l1 : l ≤ 3000)
    (hD : w.cell? ⟨gD, 0, none⟩ = some (.slice (some ⟨g, off, none⟩) n c)) (hA : w.cell? ⟨gA, 0, none⟩ = some (.int .i64 (kb * kc))) :
    Gv Try.prog 59 #[.int .i64 l, .pointer (some ⟨gD, 0, none⟩), .pointer (some ⟨gA, 0, none⟩)] w (.bool (vMany ⟨ka, kb, kc, kd, ke⟩ xs l)) := by
  unfold Gv vMany
  have hbd := worst_bd (m := 0) (l := l) (st := -1) hx (by omega) (by omega) (by rw [hs.2.1]; exact h15) n
  obtain ⟨-, q1, -, -⟩ := hbd
  have q0 := worst_ge (l := l) (st := -1) hx n
  have hl := hs.2.1
  rw [hl]
  have hgD := World.block_lt_of_cell? w _ hD
  have hgA := World.block_lt_of_cell? w _ hA
  simp only at hgD hgA
  have hX := Lib.hid hx
  clear hx hl
  go_enter Try.func59, Try.ntmps59
  go_wp2_with (go_at_call 57; (first | refine (i_worst_any g off n c xs l (-1) _ (by first | exact hs | exact hs.later _) h15 hX.out l0 l1).onL ?_ | refine (i_worst_any g off n c xs l (-1) _ (by first | exact hs | exact hs.later _) h15 hX.out l0 l1).on ?_); intro xq)
  go_ret
  exact ⟨rfl, (by repeat (with_reducible first | exact Below.refl _ _ | refine bw_later ?_ _ | refine bw_alloc ?_ _ | refine bw_drew ?_ | refine bw_set ?_ (Nat.le_refl _) _ | refine bw_set ?_ ?_ _ | exact Nat.le_refl _ | exact later_size _ _ | refine Nat.le_trans ?_ (later_size _ _) | refine Nat.le_trans ?_ (size_alloc_le _ _) | refine Nat.le_trans ?_ (Nat.le_add_right _ _)))⟩
set_option maxHeartbeats 4000000 in
theorem s_RopeVerdict_any (k : R5) (g off n c : Nat) (xs : List R3) (w : World) (hs : SR3 w g off n xs) (hn : n ≤ 1048576) : Gv Try.prog 36 #[k.v, .slice (some ⟨g, off, none⟩) n c] w (.tuple #[.string ((verdF k xs)).1, .bool ((verdF k xs)).2]) := by
  unfold Gv
  cases h0 : okDam k xs
  · have hfin := Lib.hid (show verdF k xs = (⟨#[]⟩, false) by simp [verdF, h0])
    unfold R5.v
    go_enter Try.func36, Try.ntmps36
    go_wp2_with (first | (go_at_call 48; (first | refine (l3Good_any k g off n c xs _ (by first | exact hs | exact hs.later _ | exact hs.alloc _ | exact (hs.alloc _).later _ | exact (hs.later _).alloc _ | exact ((hs.later _).alloc _).later _ | exact ((hs.alloc _).later _).alloc _ | exact (hs.alloc _).alloc _ | exact ((hs.alloc _).alloc _).later _ | exact (((hs.alloc _).later _).alloc _).later _) hn).onL ?_ | refine (l3Good_any k g off n c xs _ (by first | exact hs | exact hs.later _ | exact hs.alloc _ | exact (hs.alloc _).later _ | exact (hs.later _).alloc _ | exact ((hs.later _).alloc _).later _ | exact ((hs.alloc _).later _).alloc _ | exact (hs.alloc _).alloc _ | exact ((hs.alloc _).alloc _).later _ | exact (((hs.alloc _).later _).alloc _).later _) hn).on ?_); intro xq))
    all_goals (go_ret2; exact ⟨by rw [hfin.out]; try rfl, (by repeat (with_reducible first | exact Below.refl _ _ | refine bw_later ?_ _ | refine bw_alloc ?_ _ | refine bw_drew ?_ | refine bw_set ?_ (Nat.le_refl _) _ | refine bw_set ?_ ?_ _ | exact Nat.le_refl _ | exact later_size _ _ | refine Nat.le_trans ?_ (later_size _ _) | refine Nat.le_trans ?_ (size_alloc_le _ _) | refine Nat.le_trans ?_ (Nat.le_add_right _ _)))⟩)
  have hx := Lib.hid (wires_of h0)
  have h15 : n ≤ 15 := by have := (okDam_t h0).2.1; have := hs.2.1; omega
  obtain ⟨-, ⟨b1, b2⟩, ⟨c1, c2⟩, -, -⟩ := kind_bd (okDam_t h0).1
  have hle := Lib.hid hs.2.1
  obtain ⟨ka, kb, kc, kd, ke⟩ := k
  simp only at b1 b2 c1 c2
  obtain ⟨m, rfl⟩ := Int.eq_ofNat_of_zero_le (show 0 ≤ kb by omega)
  obtain ⟨p0, p1⟩ := prod_bd (a := (m : Int)) (b := kc) (A := 8) (B := 40) (by omega) b2 (by omega) c2
  have hQ1 := (worst_bd (m := 0) (l := 10) (st := -1) hx.out (by omega) (by omega) (by rw [hs.2.1]; exact h15) n).2.1
  have hQ0 := worst_ge (l := 10) (st := -1) hx.out n
  have hL1 := (worst_bd (m := 0) (l := 100) (st := -1) hx.out (by omega) (by omega) (by rw [hs.2.1]; exact h15) n).2.1
  have hL0 := worst_ge (l := 100) (st := -1) hx.out n
  have hfin := Lib.hid (show verdF ⟨ka, (m : Int), kc, kd, ke⟩ xs = (if vMany ⟨ka, (m : Int), kc, kd, ke⟩ xs 10 || vAny ⟨ka, (m : Int), kc, kd, ke⟩ xs m then (⟨#[114, 101, 112, 108, 97, 99, 101]⟩, true) else if vMany ⟨ka, (m : Int), kc, kd, ke⟩ xs 100 then (⟨#[119, 97, 116, 99, 104]⟩, true) else (⟨#[103, 111, 111, 100]⟩, true)) by rw [verdF, if_pos h0]; rfl)
  have hO : Hid (∀ s : Nat, vOne ⟨ka, (m : Int), kc, kd, ke⟩ xs s = decide (kc < 2 * (worstTo 0 10 (s : Int) xs n).2)) := Lib.hid fun s => by rw [vOne, hle.out]
  have hM : Hid (∀ l, vMany ⟨ka, (m : Int), kc, kd, ke⟩ xs l = decide ((m : Int) * kc < 20 * (worstTo 0 l (-1) xs n).2)) := Lib.hid fun s => by rw [vMany, hle.out]
  have hS1 : Hid (∀ s : Nat, 0 ≤ (worstTo 0 10 (s : Int) xs n).2 ∧ (worstTo 0 10 (s : Int) xs n).2 ≤ 600) := Lib.hid fun s => ⟨worst_ge hx.out n, (worst_bd (m := 0) (l := 10) (st := (s : Int)) hx.out (by omega) (by omega) (by rw [hle.out]; exact h15) n).2.1⟩
  have hK := Lib.hid (show vAny ⟨ka, (m : Int), kc, kd, ke⟩ xs 0 = false from rfl)
  have hKs : Hid (∀ s, vAny ⟨ka, (m : Int), kc, kd, ke⟩ xs (s + 1) = (vAny ⟨ka, (m : Int), kc, kd, ke⟩ xs s || vOne ⟨ka, (m : Int), kc, kd, ke⟩ xs s)) := Lib.hid fun s => rfl
  have hUp : Hid (∀ s, s ≤ m → vAny ⟨ka, (m : Int), kc, kd, ke⟩ xs s = true → vAny ⟨ka, (m : Int), kc, kd, ke⟩ xs m = true) := Lib.hid fun s h1 h2 => vAny_up h2 h1
  unfold R5.v
  have hcG : Hid (∀ w, SR3 w g off n xs → _) := Lib.hid fun w h => l3Good_any ⟨ka, (m : Int), kc, kd, ke⟩ g off n c xs w h hn
  have hcA : Hid (∀ w, SR3 w g off n xs → _) := Lib.hid fun w h => s_worst_any g off n c xs 10 (-1) w h h15 hx.out (by omega) (by omega)
  have hcB : Hid (∀ w, SR3 w g off n xs → _) := Lib.hid fun w h => s_worst_any g off n c xs 100 (-1) w h h15 hx.out (by omega) (by omega)
  have G1 := hM.out 10
  have G2 := hM.out 100
  cases hv : vMany ⟨ka, (m : Int), kc, kd, ke⟩ xs 10
  all_goals cases hw2 : vMany ⟨ka, (m : Int), kc, kd, ke⟩ xs 100
  all_goals (
    rw [hv] at G1
    rw [hw2] at G2
    have GG1 := G1.symm
    have GG2 := G2.symm
    clear G1 G2
    go_enter Try.func36, Try.ntmps36
    go_wp2_with (first | (go_at_call 48; (first | refine (hcG.out _ (by first | exact hs | exact hs.later _ | exact hs.alloc _ | exact (hs.alloc _).later _ | exact (hs.later _).alloc _ | exact ((hs.later _).alloc _).later _ | exact ((hs.alloc _).later _).alloc _ | exact (hs.alloc _).alloc _ | exact ((hs.alloc _).alloc _).later _ | exact (((hs.alloc _).later _).alloc _).later _)).onL ?_ | refine (hcG.out _ (by first | exact hs | exact hs.later _ | exact hs.alloc _ | exact (hs.alloc _).later _ | exact (hs.later _).alloc _ | exact ((hs.later _).alloc _).later _ | exact ((hs.alloc _).later _).alloc _ | exact (hs.alloc _).alloc _ | exact ((hs.alloc _).alloc _).later _ | exact (((hs.alloc _).later _).alloc _).later _)).on ?_); intro xq; clear hcG) | (go_at_call 56; (first | refine (hcA.out _ (by first | exact hs | exact hs.later _ | exact hs.alloc _ | exact (hs.alloc _).later _ | exact (hs.later _).alloc _ | exact ((hs.later _).alloc _).later _ | exact ((hs.alloc _).later _).alloc _ | exact (hs.alloc _).alloc _ | exact ((hs.alloc _).alloc _).later _ | exact (((hs.alloc _).later _).alloc _).later _)).onL ?_ | refine (hcA.out _ (by first | exact hs | exact hs.later _ | exact hs.alloc _ | exact (hs.alloc _).later _ | exact (hs.later _).alloc _ | exact ((hs.later _).alloc _).later _ | exact ((hs.alloc _).later _).alloc _ | exact (hs.alloc _).alloc _ | exact ((hs.alloc _).alloc _).later _ | exact (((hs.alloc _).later _).alloc _).later _)).on ?_); intro xq; clear hcA) | (go_at_call 56; (first | refine (hcB.out _ (by first | exact hs | exact hs.later _ | exact hs.alloc _ | exact (hs.alloc _).later _ | exact (hs.later _).alloc _ | exact ((hs.later _).alloc _).later _ | exact ((hs.alloc _).later _).alloc _ | exact (hs.alloc _).alloc _ | exact ((hs.alloc _).alloc _).later _ | exact (((hs.alloc _).later _).alloc _).later _)).onL ?_ | refine (hcB.out _ (by first | exact hs | exact hs.later _ | exact hs.alloc _ | exact (hs.alloc _).later _ | exact (hs.later _).alloc _ | exact ((hs.later _).alloc _).later _ | exact ((hs.alloc _).later _).alloc _ | exact (hs.alloc _).alloc _ | exact ((hs.alloc _).alloc _).later _ | exact (((hs.alloc _).later _).alloc _).later _)).on ?_); intro xq))
    clear h0
    go_loopw [11] (fun i wr => ∃ s : Nat, Below (w.alloc (.cells #[.int .i64 ka, .int .i64 (m : Int), .int .i64 kc, .int .i64 kd, .int .i64 ke] 25)).heap.size (w.alloc (.cells #[.int .i64 ka, .int .i64 (m : Int), .int .i64 kc, .int .i64 kd, .int .i64 ke] 25)) wr ∧ s ≤ m ∧ i = .int .i64 (s : Int) ∧ vAny ⟨ka, (m : Int), kc, kd, ke⟩ xs s = false ∧ (vMany ⟨ka, (m : Int), kc, kd, ke⟩ xs 10 = true → s = 0)) (fun i _ => m - (intOf i).toNat)
    case atStart => exact ⟨0, (by repeat (with_reducible first | exact Below.refl _ _ | refine bw_later ?_ _ | refine bw_alloc ?_ _ | refine bw_drew ?_ | refine bw_set ?_ (Nat.le_refl _) _ | refine bw_set ?_ ?_ _ | exact Nat.le_refl _ | exact later_size _ _ | refine Nat.le_trans ?_ (later_size _ _) | refine Nat.le_trans ?_ (size_alloc_le _ _) | refine Nat.le_trans ?_ (Nat.le_add_right _ _))), by omega, rfl, hK.out, fun _ => rfl⟩
    case round =>
      obtain ⟨s, hbw, hsm, rfl, hva, hv0⟩ := hrel
      obtain ⟨y, rfl⟩ := exists_later hbw
      clear hbw
      have hgy := lt_later_1_0 w _ y g hs.1
      have Hva := Lib.hid hva
      have Hv0 := Lib.hid hv0
      clear hva hv0
      have HV := Lib.hid hv
      have HW := Lib.hid hw2
      obtain ⟨z0, z1⟩ := hS1.out s
      by_cases hlt : s < m
      · have ho := hO.out s
        cases hp : vOne ⟨ka, (m : Int), kc, kd, ke⟩ xs s
        all_goals
          rw [hp] at ho
          have hoo := ho.symm
          clear ho
          have HP := Lib.hid hp
          clear hp
          go_wp2_with (go_at_call 56; (first | refine (s_worst_any g off n c xs 10 (s : Int) _ (by first | exact hs | exact hs.later _ | exact hs.alloc _ | exact (hs.alloc _).later _ | exact (hs.later _).alloc _ | exact ((hs.later _).alloc _).later _ | exact ((hs.alloc _).later _).alloc _ | exact (hs.alloc _).alloc _ | exact ((hs.alloc _).alloc _).later _ | exact (((hs.alloc _).later _).alloc _).later _) h15 hx.out (by omega) (by omega)).onL ?_ | refine (s_worst_any g off n c xs 10 (s : Int) _ (by first | exact hs | exact hs.later _ | exact hs.alloc _ | exact (hs.alloc _).later _ | exact (hs.later _).alloc _ | exact ((hs.later _).alloc _).later _ | exact ((hs.alloc _).later _).alloc _ | exact (hs.alloc _).alloc _ | exact ((hs.alloc _).alloc _).later _ | exact (((hs.alloc _).later _).alloc _).later _) h15 hx.out (by omega) (by omega)).on ?_); intro xq)
          first
            | (go_ret2
               exact ⟨by
                 rw [hfin.out]
                 first
                   | (rw [HV.out]; rfl)
                   | (have e := hUp.out (s + 1) (by omega) (by rw [hKs.out, HP.out, Bool.or_true]); rw [e, Bool.or_true]; rfl), (by repeat (with_reducible first | exact Below.refl _ _ | refine bw_later ?_ _ | refine bw_alloc ?_ _ | refine bw_drew ?_ | refine bw_set ?_ (Nat.le_refl _) _ | refine bw_set ?_ ?_ _ | exact Nat.le_refl _ | exact later_size _ _ | refine Nat.le_trans ?_ (later_size _ _) | refine Nat.le_trans ?_ (size_alloc_le _ _) | refine Nat.le_trans ?_ (Nat.le_add_right _ _)))⟩)
            | (go_roundw
               case rel => exact ⟨s + 1, (by repeat (with_reducible first | exact Below.refl _ _ | refine bw_later ?_ _ | refine bw_alloc ?_ _ | refine bw_drew ?_ | refine bw_set ?_ (Nat.le_refl _) _ | refine bw_set ?_ ?_ _ | exact Nat.le_refl _ | exact later_size _ _ | refine Nat.le_trans ?_ (later_size _ _) | refine Nat.le_trans ?_ (size_alloc_le _ _) | refine Nat.le_trans ?_ (Nat.le_add_right _ _))), by omega, by go_num, by rw [hKs.out, HP.out, Hva.out]; rfl, fun h => by rw [HV.out] at h; cases h⟩
               case measure => simp [intOf]; omega)
      · obtain rfl : m = s := by omega
        have hvf : vMany ⟨ka, (m : Int), kc, kd, ke⟩ xs 10 = false := by
          cases hq : vMany ⟨ka, (m : Int), kc, kd, ke⟩ xs 10
          · rfl
          · have := Hv0.out hq; omega
        first
          | (rw [hvf] at hv; cases hv; done)
          | (go_wp2
             go_ret2
             exact ⟨by rw [hfin.out, hvf, Hva.out, HW.out]; rfl, (by repeat (with_reducible first | exact Below.refl _ _ | refine bw_later ?_ _ | refine bw_alloc ?_ _ | refine bw_drew ?_ | refine bw_set ?_ (Nat.le_refl _) _ | refine bw_set ?_ ?_ _ | exact Nat.le_refl _ | exact later_size _ _ | refine Nat.le_trans ?_ (later_size _ _) | refine Nat.le_trans ?_ (size_alloc_le _ _) | refine Nat.le_trans ?_ (Nat.le_add_right _ _)))⟩))
end Go.Proofs.Ytagplkdeallbmaa
