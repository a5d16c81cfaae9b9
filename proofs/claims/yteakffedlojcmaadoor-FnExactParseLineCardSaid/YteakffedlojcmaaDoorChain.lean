/- Lists whose elements are each valid and stand in a relation each to the next: the plain side. -/
import Derived.Test.YteakffedlojcmaaDoorStructs
namespace Go.Proofs.YteakffedlojcmaaDoor
def chainAt {α : Type} (p : α → Bool) (rel : α → α → Bool) (xs : List α) (k : Nat) : Bool :=
  match xs[k]? with
  | none => true
  | some r => p r && (decide (k = 0) || (match xs[k - 1]? with | none => true | some q => rel q r))
def chain {α : Type} (p : α → Bool) (rel : α → α → Bool) (xs : List α) : Bool := (List.range xs.length).all (chainAt p rel xs)
section
variable {α : Type} {p : α → Bool} {rel : α → α → Bool} {xs : List α}
theorem chain_t (h : ∀ i, i < xs.length → chainAt p rel xs i = true) : chain p rel xs = true := by
  unfold chain
  rw [List.all_eq_true]
  intro i hi
  exact h i (by simpa using hi)
theorem chain_f {k : Nat} (hk : k < xs.length) (h : chainAt p rel xs k = false) : chain p rel xs = false := by
  unfold chain
  rw [List.all_eq_false]
  exact ⟨k, by simpa using hk, by simp [h]⟩
theorem chain_at (h : chain p rel xs = true) {k : Nat} (hk : k < xs.length) : chainAt p rel xs k = true := by
  unfold chain at h
  rw [List.all_eq_true] at h
  exact h k (by simpa using hk)
theorem chainAt_no {k : Nat} {r : α} (hr : xs[k]? = some r) (hp : p r = false) : chainAt p rel xs k = false := by simp [chainAt, hr, hp]
theorem chainAt_0 {r : α} (hr : xs[0]? = some r) (hp : p r = true) : chainAt p rel xs 0 = true := by simp [chainAt, hr, hp]
theorem chainAt_s {j : Nat} {q r : α} (hr : xs[j + 1]? = some r) (hq : xs[j]? = some q) (hp : p r = true) : chainAt p rel xs (j + 1) = rel q r := by simp [chainAt, hr, hp, hq]
theorem chain_step {k : Nat} (h : ∀ i, i < k → chainAt p rel xs i = true) (hk : chainAt p rel xs k = true) : ∀ i, i < k + 1 → chainAt p rel xs i = true := fun i hi => by
  rcases Nat.lt_or_ge i k with h' | h'
  · exact h i h'
  · obtain rfl : i = k := by omega
    exact hk
theorem chain_each (h : chain p rel xs = true) {k : Nat} {r : α} (hr : xs[k]? = some r) : p r = true := by
  have := chain_at h (List.getElem?_eq_some_iff.1 hr).1
  cases hp : p r
  · rw [chainAt_no hr hp] at this
    cases this
  · rfl
theorem chain_rel (h : chain p rel xs = true) {j : Nat} {q r : α} (hq : xs[j]? = some q) (hr : xs[j + 1]? = some r) : rel q r = true := by
  have := chain_at h (List.getElem?_eq_some_iff.1 hr).1
  rwa [chainAt_s hr hq (chain_each h hr)] at this
end
end Go.Proofs.YteakffedlojcmaaDoor
