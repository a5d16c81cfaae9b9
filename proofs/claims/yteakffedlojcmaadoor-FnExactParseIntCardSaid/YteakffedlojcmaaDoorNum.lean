/- Numbers as text: the reference. -/
import Derived.Test.YteakffedlojcmaaDoorWithin
import Derived.Lib.ItoaNum
import Derived.Lib.ItoaLen
namespace Go.Proofs.YteakffedlojcmaaDoor
open Go.RowKit
def numB (n : Int) : ByteArray := ⟨(Lib.itoa n).toArray⟩
def decB (u : Nat) : ByteArray := ⟨(Lib.decDigits u).toArray⟩
theorem decB_size {u : Nat} (h : u ≤ 1000000000000000000) : (decB u).size ≤ 20 := by
  have := Lib.nDigits_le20 u (by omega)
  have e := Lib.decDigits_length u
  simp only [decB, ByteArray.size, List.size_toArray]
  omega
theorem numB_size {n : Int} (h0 : -1000000000000000000 ≤ n) (h1 : n ≤ 1000000000000000000) : (numB n).size ≤ 21 := by
  have := Lib.itoa_length_le n (by omega) (by omega)
  simp only [numB, ByteArray.size, List.size_toArray]
  omega
theorem dec_lo {u : Nat} (h : u < 10) : (⟨#[48, 49, 50, 51, 52, 53, 54, 55, 56, 57]⟩ : ByteArray).extract u (u + 1) = decB u := by
  unfold decB
  rw [Lib.decDigits, dif_pos h]
  match u, h with
  | 0, _ | 1, _ | 2, _ | 3, _ | 4, _ | 5, _ | 6, _ | 7, _ | 8, _ | 9, _ => rfl
theorem dec_hi {u : Nat} (h : ¬ u < 10) : decB (u / 10) ++ decB (u % 10) = decB u := by
  have e : Lib.decDigits u = Lib.decDigits (u / 10) ++ Lib.decDigits (u % 10) := by
    rw [Lib.decDigits, dif_neg h]
    congr 1
    rw [Lib.decDigits, dif_pos (by omega)]
  unfold decB
  rw [e]
  simp [ByteArray.ext_iff, ByteArray.data_append]
set_option maxRecDepth 100000 in
theorem dig_slice (d : Nat) (h : d < 10) (i j : Int) (hi : i = (d : Int)) (hj : j = (d : Int) + 1) (wx : World) : (Instr.slice 9 (.string ⟨#[48, 49, 50, 51, 52, 53, 54, 55, 56, 57]⟩) (some (.int .i64 i)) (some (.int .i64 j)) none).run Tryd.prog wx = .ok (.string (decB d)) wx := by
  subst hi
  subst hj
  have e := run_slice_string (P := Tryd.prog) wx 9 ⟨#[48, 49, 50, 51, 52, 53, 54, 55, 56, 57]⟩ .i64 .i64 (d : Int) ((d : Int) + 1) Tryd.underlying9 (by omega) (by omega) (by rw [show (⟨#[48, 49, 50, 51, 52, 53, 54, 55, 56, 57]⟩ : ByteArray).size = 10 from rfl]; omega)
  rw [e, show ((d : Int) + 1).toNat = d + 1 by omega, show ((d : Int)).toNat = d by omega, dec_lo h]
set_option maxRecDepth 100000 in
theorem decB_any : ∀ (u : Nat), u ≤ 1000000000000000000 → ∀ w, Gv Tryd.prog 33 #[.int .i64 (u : Int)] w (.string (decB u)) := by
  intro u
  induction u using Nat.strongRecOn with
  | _ u ih =>
    intro hu w
    have hneg : decide ((u : Int) < 0) = false := by simp
    unfold Gv
    by_cases h : u < 10
    · have h1 : decide ((u : Int) < 10) = true := by simp; omega
      have hsl := dig_slice u h _ _ rfl rfl
      go_enter Tryd.func33, Tryd.ntmps33
      go_wp2_with fail
      go_ret
      exact ⟨rfl, (by repeat (with_reducible first | exact hbD | exact Below.refl _ _ | refine bw_later ?_ _ | refine bw_alloc ?_ _ | refine bw_drew ?_ | refine bw_set ?_ (Nat.le_refl _) _ | refine bw_set ?_ ?_ _ | exact Nat.le_refl _ | exact later_size _ _ | refine Nat.le_trans ?_ (later_size _ _) | refine Nat.le_trans ?_ (size_alloc_le _ _) | refine Nat.le_trans ?_ (Nat.le_add_right _ _)))⟩
    · have h1 : decide ((u : Int) < 10) = false := by simp; omega
      have e := Lib.hid (dec_hi h)
      have hc := Lib.hid (ih (u / 10) (by omega) (by omega))
      have h2 : 10 ≤ u := by omega
      have hz : ¬ 9223372036854775807 < (decB (u / 10)).size + (decB (u % 10)).size := by
        have := decB_size (u := u / 10) (by omega)
        have := decB_size (u := u % 10) (by omega)
        omega
      have hsl := dig_slice (u % 10) (by omega) ((u : Int) % 10) ((u : Int) % 10 + 1) (by omega) (by omega)
      go_enter Tryd.func33, Tryd.ntmps33
      go_wp2_with ((with_reducible refine wp_region_later (by kernel_rfl) (by kernel_rfl) ?_); (repeat (go_big_quiet_step ((go_at_call 33; exact (hc.out _).quiet)))); refine wpQuiet_nil ?_; rintro _ ⟨xr, rfl⟩)
      go_ret
      exact ⟨by rw [e.out]; rfl, (by repeat (with_reducible first | exact hbD | exact Below.refl _ _ | refine bw_later ?_ _ | refine bw_alloc ?_ _ | refine bw_drew ?_ | refine bw_set ?_ (Nat.le_refl _) _ | refine bw_set ?_ ?_ _ | exact Nat.le_refl _ | exact later_size _ _ | refine Nat.le_trans ?_ (later_size _ _) | refine Nat.le_trans ?_ (size_alloc_le _ _) | refine Nat.le_trans ?_ (Nat.le_add_right _ _)))⟩
theorem num_any (n : Int) (h0 : -1000000000000000000 ≤ n) (h1 : n ≤ 1000000000000000000) (w : World) : Gv Tryd.prog 33 #[.int .i64 n] w (.string (numB n)) := by
  by_cases hn : n < 0
  · have hc := Lib.hid (decB_any n.natAbs (by omega))
    have e : ((n.natAbs : Nat) : Int) = -n := by omega
    rw [e] at hc
    have hfin := Lib.hid (show numB n = (⟨#[45]⟩ : ByteArray) ++ decB n.natAbs by
      unfold numB decB Lib.itoa
      rw [if_pos hn]
      simp [ByteArray.ext_iff, ByteArray.data_append])
    have hneg : decide (n < 0) = true := by simpa using hn
    have hz : ¬ 9223372036854775807 < 1 + (decB n.natAbs).size := by
      have := decB_size (u := n.natAbs) (by omega)
      omega
    unfold Gv
    go_enter Tryd.func33, Tryd.ntmps33
    go_wp2_with (go_at_call 33; (first | refine (hc.out _).onL ?_ | refine (hc.out _).on ?_); intro xq)
    go_ret
    exact ⟨by rw [hfin.out]; rfl, (by repeat (with_reducible first | exact hbD | exact Below.refl _ _ | refine bw_later ?_ _ | refine bw_alloc ?_ _ | refine bw_drew ?_ | refine bw_set ?_ (Nat.le_refl _) _ | refine bw_set ?_ ?_ _ | exact Nat.le_refl _ | exact later_size _ _ | refine Nat.le_trans ?_ (later_size _ _) | refine Nat.le_trans ?_ (size_alloc_le _ _) | refine Nat.le_trans ?_ (Nat.le_add_right _ _)))⟩
  · obtain ⟨u, rfl⟩ := Int.eq_ofNat_of_zero_le (show 0 ≤ n by omega)
    have e : numB (u : Int) = decB u := by
      unfold numB decB Lib.itoa
      rw [if_neg hn]
      rfl
    rw [e]
    exact decB_any u (by omega) w
end Go.Proofs.YteakffedlojcmaaDoor
