/- Lists whose elements are each valid, their first fields rising: the plain side. -/
import Derived.Test.YtnemamokjikdeaaStructs
namespace Go.Proofs.Ytnemamokjikdeaa
open Go.RowKit
def goodAt (p : R5 → Bool) (xs : List R5) (k : Nat) : Bool :=
  match xs[k]? with
  | none => true
  | some r => p r && (decide (k = 0) || (match xs[k - 1]? with | none => true | some q => decide (q.a < r.a)))
def good (p : R5 → Bool) (xs : List R5) : Bool := (List.range xs.length).all (goodAt p xs)
section
variable {p : R5 → Bool} {xs : List R5}
theorem good_t (h : ∀ i, i < xs.length → goodAt p xs i = true) : good p xs = true := by
  unfold good
  rw [List.all_eq_true]
  intro i hi
  exact h i (by simpa using hi)
theorem good_f {k : Nat} (hk : k < xs.length) (h : goodAt p xs k = false) : good p xs = false := by
  unfold good
  rw [List.all_eq_false]
  exact ⟨k, by simpa using hk, by simp [h]⟩
theorem good_at (h : good p xs = true) {k : Nat} (hk : k < xs.length) : goodAt p xs k = true := by
  unfold good at h
  rw [List.all_eq_true] at h
  exact h k (by simpa using hk)
theorem goodAt_no {k : Nat} {r : R5} (hr : xs[k]? = some r) (hp : p r = false) : goodAt p xs k = false := by simp [goodAt, hr, hp]
theorem goodAt_0 {r : R5} (hr : xs[0]? = some r) (hp : p r = true) : goodAt p xs 0 = true := by simp [goodAt, hr, hp]
theorem goodAt_lt {j : Nat} {q r : R5} (hr : xs[j + 1]? = some r) (hq : xs[j]? = some q) (hp : p r = true) (h : q.a < r.a) : goodAt p xs (j + 1) = true := by simp [goodAt, hr, hp, hq, h]
theorem goodAt_ge {j : Nat} {q r : R5} (hr : xs[j + 1]? = some r) (hq : xs[j]? = some q) (hp : p r = true) (h : ¬ q.a < r.a) : goodAt p xs (j + 1) = false := by
  simp [goodAt, hr, hp, hq]; omega
theorem ahead_step {k : Nat} (h : ∀ i, i < k → goodAt p xs i = true) (hk : goodAt p xs k = true) : ∀ i, i < k + 1 → goodAt p xs i = true := fun i hi => by
  rcases Nat.lt_or_ge i k with h' | h'
  · exact h i h'
  · obtain rfl : i = k := by omega
    exact hk
end
end Go.Proofs.Ytnemamokjikdeaa
