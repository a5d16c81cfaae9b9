/- Numbers as text: the reference. -/
import Derived.Test.YteakffedlojcmaaWithin
import Derived.Lib.ItoaNum
import Derived.Lib.ItoaLen
namespace Go.Proofs.Yteakffedlojcmaa
open Go.RowKit
def numB (n : Int) : ByteArray := ⟨(Lib.itoa n).toArray⟩
def decB (u : Nat) : ByteArray := ⟨(Lib.decDigits u).toArray⟩
theorem decB_size {u : Nat} (h : u ≤ 1000000000000000000) : (decB u).size ≤ 20 := by
  have := Lib.nDigits_le20 u (by omega)
  have e := Lib.decDigits_length u
  simp only [decB, ByteArray.size, List.size_toArray]
  omega
theorem numB_size {n : Int} (h0 : -1000000000000000000 ≤ n) (h1 : n ≤ 1000000000000000000) : (numB n).size ≤ 21 := by
  have := Lib.itoa_length_le n (by omega) (by omega)
  simp only [numB, ByteArray.size, List.size_toArray]
  omega
theorem dec_lo {u : Nat} (h : u < 10) : (⟨#[48, 49, 50, 51, 52, 53, 54, 55, 56, 57]⟩ : ByteArray).extract u (u + 1) = decB u := by
  unfold decB
  rw [Lib.decDigits, dif_pos h]
  match u, h with
  | 0, _ | 1, _ | 2, _ | 3, _ | 4, _ | 5, _ | 6, _ | 7, _ | 8, _ | 9, _ => rfl
theorem dec_hi {u : Nat} (h : ¬ u < 10) : decB (u / 10) ++ decB (u % 10) = decB u := by
  have e : Lib.decDigits u = Lib.decDigits (u / 10) ++ Lib.decDigits (u % 10) := by
    rw [Lib.decDigits, dif_neg h]
    congr 1
    rw [Lib.decDigits, dif_pos (by omega)]
  unfold decB
  rw [e]
  simp [ByteArray.ext_iff, ByteArray.data_append]
set_option maxRecDepth 100000 in
theorem dig_slice (d : Nat) (h : d < 10) (i j : Int) (hi : i = (d : Int)) (hj : j = (d : Int) + 1) (wx : World) : (Instr.slice 9 (.string ⟨#[48, 49, 50, 51, 52, 53, 54, 55, 56, 57]⟩) (some (.int .i64 i)) (some (.int .i64 j)) none).run Try.prog wx = .ok (.string (decB d)) wx := by
  subst hi
  subst hj
  have e := run_slice_string (P := Try.prog) wx 9 ⟨#[48, 49, 50, 51, 52, 53, 54, 55, 56, 57]⟩ .i64 .i64 (d : Int) ((d : Int) + 1) Try.underlying9 (by omega) (by omega) (by rw [show (⟨#[48, 49, 50, 51, 52, 53, 54, 55, 56, 57]⟩ : ByteArray).size = 10 from rfl]; omega)
  rw [e, show ((d : Int) + 1).toNat = d + 1 by omega, show ((d : Int)).toNat = d by omega, dec_lo h]
end Go.Proofs.Yteakffedlojcmaa
