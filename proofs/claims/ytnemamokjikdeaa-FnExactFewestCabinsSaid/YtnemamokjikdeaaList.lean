/- Lists whose elements are each valid, their first fields rising: the plain side. -/
import Derived.Test.YtnemamokjikdeaaStructs
namespace Go.Proofs.Ytnemamokjikdeaa
open Go.RowKit
def goodAt (p : R5 → Bool) (xs : List R5) (k : Nat) : Bool :=
  match xs[k]? with
  | none => true
  | some r => p r && (decide (k = 0) || (match xs[k - 1]? with | none => true | some q => decide (q.a < r.a)))
def good (p : R5 → Bool) (xs : List R5) : Bool := (List.range xs.length).all (goodAt p xs)
section
variable {p : R5 → Bool} {xs : List R5}
theorem good_t (h : ∀ i, i < xs.length → goodAt p xs i = true) : good p xs = true := by
  unfold good
  rw [List.all_eq_true]
  intro i hi
  exact h i (by simpa using hi)
theorem good_f {k : Nat} (hk : k < xs.length) (h : goodAt p xs k = false) : good p xs = false := by
  unfold good
  rw [List.all_eq_false]
  exact ⟨k, by simpa using hk, by simp [h]⟩
theorem good_at (h : good p xs = true) {k : Nat} (hk : k < xs.length) : goodAt p xs k = true := by
  unfold good at h
  rw [List.all_eq_true] at h
  exact h k (by simpa using hk)
theorem goodAt_no {k : Nat} {r : R5} (hr : xs[k]? = some r) (hp : p r = false) : goodAt p xs k = false := by simp [goodAt, hr, hp]
theorem goodAt_0 {r : R5} (hr : xs[0]? = some r) (hp : p r = true) : goodAt p xs 0 = true := by simp [goodAt, hr, hp]
theorem goodAt_lt {j : Nat} {q r : R5} (hr : xs[j + 1]? = some r) (hq : xs[j]? = some q) (hp : p r = true) (h : q.a < r.a) : goodAt p xs (j + 1) = true := by simp [goodAt, hr, hp, hq, h]
theorem goodAt_ge {j : Nat} {q r : R5} (hr : xs[j + 1]? = some r) (hq : xs[j]? = some q) (hp : p r = true) (h : ¬ q.a < r.a) : goodAt p xs (j + 1) = false := by
  simp [goodAt, hr, hp, hq]; omega
theorem ahead_step {k : Nat} (h : ∀ i, i < k → goodAt p xs i = true) (hk : goodAt p xs k = true) : ∀ i, i < k + 1 → goodAt p xs i = true := fun i hi => by
  rcases Nat.lt_or_ge i k with h' | h'
  · exact h i h'
  · obtain rfl : i = k := by omega
    exact hk
theorem good_each (h : good p xs = true) {k : Nat} {r : R5} (hr : xs[k]? = some r) : p r = true := by
  have := good_at h (List.getElem?_eq_some_iff.1 hr).1
  cases hp : p r
  · rw [goodAt_no hr hp] at this
    cases this
  · rfl
end
def okList (p : R5 → Bool) (m : Nat) (xs : List R5) : Bool := good p xs && decide (xs.length ≤ m)
theorem okList_t {p : R5 → Bool} {m n : Nat} {xs : List R5} (h : okList p m xs = true) (hl : xs.length = n) : good p xs = true ∧ n ≤ m := by
  simpa [okList, hl] using h
/-- What is handed back of the best index: a number of its element, or nothing. -/
def bestOut (xs : List R5) (f : R5 → Int) (b : Int) : Int × Bool :=
  if b < 0 then (0, false) else match xs[b.toNat]? with | some q => (f q, true) | none => (0, false)
theorem bestOut_at {xs : List R5} {f : R5 → Int} {j : Nat} {q : R5} (hq : xs[j]? = some q) : bestOut xs f (j : Int) = (f q, true) := by simp [bestOut, hq]
/-- The index of the best element among the first k: one that meets 'pre', with the least 'f', the first of them. -/
def bestTo (pre : R5 → Bool) (f : R5 → Int) (xs : List R5) : Nat → Int
  | 0 => -1
  | k + 1 => match xs[k]? with
    | some r => if pre r && (decide (bestTo pre f xs k < 0) || (match xs[(bestTo pre f xs k).toNat]? with | some q => decide (f r < f q) | none => false)) then (k : Int) else bestTo pre f xs k
    | none => bestTo pre f xs k
section
variable {pre : R5 → Bool} {f : R5 → Int} {xs : List R5} {k j : Nat} {r q : R5}
theorem best_no (hr : xs[k]? = some r) (hp : pre r = false) : bestTo pre f xs (k + 1) = bestTo pre f xs k := by simp [bestTo, hr, hp]
theorem best_first (hr : xs[k]? = some r) (hp : pre r = true) (hb : bestTo pre f xs k = -1) : bestTo pre f xs (k + 1) = k := by simp [bestTo, hr, hp, hb]
theorem best_lt (hr : xs[k]? = some r) (hp : pre r = true) (hb : bestTo pre f xs k = (j : Int)) (hq : xs[j]? = some q) (h : decide (f r < f q) = true) : bestTo pre f xs (k + 1) = k := by
  simp only [bestTo, hr, hp, hb, Int.toNat_natCast, hq, h, Bool.or_true, Bool.and_true, if_true]
theorem best_ge (hr : xs[k]? = some r) (hp : pre r = true) (hb : bestTo pre f xs k = (j : Int)) (hq : xs[j]? = some q) (h : decide (f r < f q) = false) : bestTo pre f xs (k + 1) = j := by
  have h0 : decide ((j : Int) < 0) = false := by simp
  simp only [bestTo, hr, hp, hb, Int.toNat_natCast, hq, h, h0, Bool.or_false, Bool.and_false]
  simp
end
end Go.Proofs.Ytnemamokjikdeaa
