/- The tensions at the supports of a valid line: the plain side. -/
import Derived.Test.YtppgfgklnfpgdaaLineFacts
import Derived.Test.YtppgfgklnfpgdaaCase
import Derived.Test.YtppgfgklnfpgdaaPush
namespace Go.Proofs.Ytppgfgklnfpgdaa
open Go.RowKit
def hAt (xs : List Sup) (i : Nat) : Int := (supAt xs i).h
/-- The tension at a support, with a friction u. -/
def tenAt (xs : List Sup) (x : R3) (u : Int) (i : Nat) : Int := x.b + x.a * (hAt xs i - hAt xs 0) + (i : Int) * u
theorem tenAt_zero (xs : List Sup) (x : R3) (u : Int) : tenAt xs x u 0 = x.b := by simp [tenAt]
theorem tenAt_succ (xs : List Sup) (x : R3) (u : Int) (i : Nat) : tenAt xs x u (i + 1) = tenAt xs x u i + x.a * (hAt xs (i + 1) - hAt xs i) + u := by
  unfold tenAt
  push_cast
  grind
theorem hAt_of {xs : List Sup} {i : Nat} {r : Sup} (h : xs[i]? = some r) : hAt xs i = r.h := by simp [hAt, supAt_of h]
theorem hAt_bd {xs : List Sup} (h : LineOk xs) (i : Nat) : 0 ≤ hAt xs i ∧ hAt xs i ≤ 2000 := by
  unfold hAt supAt
  cases e : xs[i]? with
  | none => simp [Sup.zero]
  | some r => exact (h.bd i r e).2
theorem diff_bd {a : Int} {d : Int} (a0 : 0 ≤ a) (a1 : a ≤ 1000) (d0 : -2000 ≤ d) (d1 : d ≤ 2000) : -2000000 ≤ a * d ∧ a * d ≤ 2000000 := by
  rcases Int.lt_or_le d 0 with h | h
  · have := mul_bd (a := a) (b := -d) (A := 1000) (B := 2000) a0 a1 (by omega) (by omega)
    rw [Int.mul_neg] at this
    omega
  · have := mul_bd (a := a) (b := d) (A := 1000) (B := 2000) a0 a1 h d1
    omega
theorem tenAt_bd {xs : List Sup} {x : R3} {u : Int} (h : LineOk xs) (hx : isCase x = true) (u0 : -1000 ≤ u) (u1 : u ≤ 1000) (i : Nat) (hi : i ≤ 8) : -2008000 ≤ tenAt xs x u i ∧ tenAt xs x u i ≤ 3008000 := by
  obtain ⟨⟨a1, a2⟩, ⟨b1, b2⟩, -⟩ := case_bd hx
  have h1 := hAt_bd h i
  have h0 := hAt_bd h 0
  have := diff_bd (a := x.a) (d := hAt xs i - hAt xs 0) (by omega) a2 (by omega) (by omega)
  have hu : -8000 ≤ (i : Int) * u ∧ (i : Int) * u ≤ 8000 := by
    rcases Int.lt_or_le u 0 with h | h
    · have := mul_bd (a := (i : Int)) (b := -u) (A := 8) (B := 1000) (by omega) (by omega) (by omega) (by omega)
      rw [Int.mul_neg] at this
      omega
    · have := mul_bd (a := (i : Int)) (b := u) (A := 8) (B := 1000) (by omega) (by omega) h u1
      omega
  unfold tenAt
  omega
/-- The first k tensions; whether none of them is less than 0. -/
def tens (xs : List Sup) (x : R3) (u : Int) (k : Nat) : List Int := (List.range k).map (tenAt xs x u)
def tensOk (xs : List Sup) (x : R3) (u : Int) (k : Nat) : Bool := (List.range k).all fun i => decide (0 ≤ tenAt xs x u i)
theorem tens_len (xs : List Sup) (x : R3) (u : Int) (k : Nat) : (tens xs x u k).length = k := by simp [tens]
theorem tens_at (xs : List Sup) (x : R3) (u : Int) {k i : Nat} (h : i < k) : (tens xs x u k)[i]? = some (tenAt xs x u i) := by simp [tens, List.getElem?_range h]
theorem tens_succ (xs : List Sup) (x : R3) (u : Int) (k : Nat) : tens xs x u (k + 1) = tens xs x u k ++ [tenAt xs x u k] := by simp [tens, List.range_succ]
theorem tensOk_succ (xs : List Sup) (x : R3) (u : Int) (k : Nat) : tensOk xs x u (k + 1) = (tensOk xs x u k && decide (0 ≤ tenAt xs x u k)) := by simp [tensOk, List.range_succ, List.all_append]
theorem tensOk_one {xs : List Sup} {x : R3} (hx : isCase x = true) (u : Int) : tensOk xs x u 1 = true := by
  have := (case_bd hx).2.1
  simp [tensOk, tenAt_zero, List.range_succ]
  omega
def tensF (u : Int) (xs : List Sup) (x : R3) : List Int × Bool := if okLine xs && (isCase x && tensOk xs x u xs.length) then (tens xs x u xs.length, true) else ([], false)
end Go.Proofs.Ytppgfgklnfpgdaa
