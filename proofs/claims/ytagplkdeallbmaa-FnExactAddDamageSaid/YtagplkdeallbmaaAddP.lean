/- A damage added to a rope's damages: the plain side. -/
import Derived.Test.YtagplkdeallbmaaFindD
import Derived.Test.YtagplkdeallbmaaInsD
namespace Go.Proofs.Ytagplkdeallbmaa
open Go Go.RowKit
def sumD (d : R3) (xs : List R3) : Int := match xs[atD d xs]? with
  | some q => q.c + d.c
  | none => d.c
def putD (d : R3) (xs : List R3) : List R3 := if hitD d xs then xs.set (atD d xs) ⟨d.a, d.b, sumD d xs⟩ else xs.take (atD d xs) ++ d :: xs.drop (atD d xs)
def addOut (k : R5) (d : R3) (xs : List R3) : List R3 × Bool := if okDam k (putD d xs) then (putD d xs, true) else ([], false)
def addF (k : R5) (xs : List R3) (d : R3) : List R3 × Bool := if okDam k xs && isDam k d then addOut k d xs else ([], false)
theorem atD_le (d : R3) (xs : List R3) : atD d xs ≤ xs.length := List.findIdx_le_length
/-- In a rising list what stands ahead of a smaller one is smaller. -/
theorem cmpD_trans {p q d : R3} (h1 : cmpD p q < 0) (h2 : cmpD q d < 0) : cmpD p d < 0 := by
  have e1 := cmpD_lt p q
  have e2 := cmpD_lt q d
  have e3 := cmpD_lt p d
  rw [decide_eq_true h1] at e1
  rw [decide_eq_true h2] at e2
  have a1 := e1.symm
  have a2 := e2.symm
  simp only [Bool.or_eq_true, Bool.and_eq_true, decide_eq_true_eq] at a1 a2
  refine of_decide_eq_true (e3.trans ?_)
  simp only [Bool.or_eq_true, Bool.and_eq_true, decide_eq_true_eq]
  omega
theorem cmpI_0 {x y : Int} (h : cmpI x y = 0) : x = y := by
  unfold cmpI at h
  by_cases h1 : x < y
  · rw [if_pos h1] at h; omega
  · rw [if_neg h1] at h
    by_cases h2 : y < x
    · rw [if_pos h2] at h; omega
    · omega
theorem cmpD_0 {q d : R3} (h : cmpD q d = 0) : q.a = d.a ∧ q.b = d.b := by
  unfold cmpD orI at h
  by_cases h1 : cmpI q.a d.a = 0
  · rw [if_pos h1] at h
    exact ⟨cmpI_0 h1, cmpI_0 h⟩
  · rw [if_neg h1] at h
    exact absurd h h1
theorem cmpD_mono {p : R3 → Bool} {d : R3} {xs : List R3} (h : chain p (fun a b => decide (cmpD a b < 0)) xs = true) : ∀ (i j : Nat) (x y : R3), i ≤ j → xs[i]? = some x → xs[j]? = some y → cmpD y d < 0 → cmpD x d < 0 := by
  intro i j x y hij hx hy hd
  obtain ⟨m, rfl⟩ : ∃ m, j = i + m := ⟨j - i, by omega⟩
  clear hij
  induction m generalizing y with
  | zero =>
    rw [Nat.add_zero, hx] at hy
    cases hy
    exact hd
  | succ m ih =>
    have hl : i + m < xs.length := by have := (List.getElem?_eq_some_iff.1 hy).1; omega
    have hz := List.getElem?_eq_getElem hl
    have hr := chain_rel h hz (show xs[i + m + 1]? = some y from hy)
    exact ih _ (cmpD_trans (of_decide_eq_true hr) hd) hz
theorem hitD_at {d : R3} {xs : List R3} (h : hitD d xs = true) : ∃ q, xs[atD d xs]? = some q ∧ q.a = d.a ∧ q.b = d.b := by
  unfold hitD at h
  split at h
  · rename_i q hq
    exact ⟨q, hq, cmpD_0 (by simpa using h)⟩
  · cases h
theorem putD_hit {d q : R3} {xs : List R3} (h : hitD d xs = true) (hq : xs[atD d xs]? = some q) : putD d xs = xs.set (atD d xs) { q with c := q.c + d.c } := by
  obtain ⟨q', hq', e1, e2⟩ := hitD_at h
  rw [hq] at hq'
  cases hq'
  unfold putD sumD
  rw [if_pos h, hq]
  simp [e1, e2]
theorem putD_no {d : R3} {xs : List R3} (h : hitD d xs = false) : putD d xs = xs.take (atD d xs) ++ d :: xs.drop (atD d xs) := by
  unfold putD; rw [h]; simp
theorem flat_take (xs : List R3) (i : Nat) : (xs.flatMap R3.cs).take (i * 3) = (xs.take i).flatMap R3.cs := by
  induction xs generalizing i with
  | nil => simp
  | cons x xs ih =>
    cases i with
    | zero => simp
    | succ i =>
      rw [List.flatMap_cons, List.take_succ_cons, List.flatMap_cons, ← ih i, List.take_append, List.take_of_length_le (by rw [R3.cs_len]; omega), R3.cs_len, show (i + 1) * 3 - 3 = i * 3 by omega]
theorem flat_drop (xs : List R3) (i : Nat) : (xs.flatMap R3.cs).drop (i * 3) = (xs.drop i).flatMap R3.cs := by
  induction xs generalizing i with
  | nil => simp
  | cons x xs ih =>
    cases i with
    | zero => simp
    | succ i =>
      rw [List.flatMap_cons, List.drop_succ_cons, ← ih i, List.drop_append, List.drop_eq_nil_of_le (by rw [R3.cs_len]; omega), R3.cs_len, show (i + 1) * 3 - 3 = i * 3 by omega, List.nil_append]
theorem flat_ins (d : R3) (xs : List R3) (i : Nat) : (xs.flatMap R3.cs).take (i * 3) ++ d.cs ++ (xs.flatMap R3.cs).drop (i * 3) = (xs.take i ++ d :: xs.drop i).flatMap R3.cs := by
  rw [flat_take, flat_drop]
  simp
end Go.Proofs.Ytagplkdeallbmaa
