/- The span with a place: the plain side, for supports and for points of the ground. No program in sight. -/
import Derived.Test.YteakffedlojcmaaDoorLib
namespace Go.Proofs.YteakffedlojcmaaDoor
/-- The first span whose end does not lie ahead of the place. -/
def spanI {α : Type} (f : α → Int) (xs : List α) (p : Int) : Nat := (xs.drop 1).findIdx (fun s => decide (p ≤ f s))
section
variable {α : Type} {f : α → Int} {xs : List α} {p : Int} {k : Nat} {r : α}
theorem spanI_at (hr : xs[k + 1]? = some r) (hb : ∀ j, j < k → ∀ q, xs[j + 1]? = some q → f q < p) (hp : p ≤ f r) : spanI f xs p = k := by
  have hk : k + 1 < xs.length := (List.getElem?_eq_some_iff.1 hr).1
  unfold spanI
  rw [List.findIdx_eq (by simp; omega)]
  refine ⟨?_, fun j hj => ?_⟩
  · have e : (xs.drop 1)[k]'(by simp; omega) = r := by
      rw [List.getElem_drop]
      have := (List.getElem?_eq_some_iff.1 hr).2
      simpa [Nat.add_comm] using this
    rw [e]
    simpa using hp
  · have hj' : j + 1 < xs.length := by omega
    have := hb j hj (xs[j + 1]) (List.getElem?_eq_getElem hj')
    rw [List.getElem_drop]
    simp only [Nat.add_comm 1 j]
    simp; omega
/-- What is known of the span of a place that is not ahead of the first and not behind the last. -/
theorem spanI_is {a0 z : α} (h0 : xs[0]? = some a0) (hz : xs[xs.length - 1]? = some z) (h2 : 2 ≤ xs.length) (hp0 : f a0 ≤ p) (hpz : p ≤ f z) :
    ∃ a b, xs[spanI f xs p]? = some a ∧ xs[spanI f xs p + 1]? = some b ∧ f a ≤ p ∧ p ≤ f b := by
  have hlt : spanI f xs p < (xs.drop 1).length := by
    unfold spanI
    rw [List.findIdx_lt_length]
    refine ⟨z, ?_, by simpa using hpz⟩
    have : (xs.drop 1)[xs.length - 2]? = some z := by
      rw [List.getElem?_drop, show 1 + (xs.length - 2) = xs.length - 1 by omega]
      exact hz
    exact List.mem_of_getElem? this
  have hl : spanI f xs p + 1 < xs.length := by
    rw [List.length_drop] at hlt
    omega
  refine ⟨xs[spanI f xs p]'(by omega), xs[spanI f xs p + 1], List.getElem?_eq_getElem _, List.getElem?_eq_getElem _, ?_, ?_⟩
  · rcases Nat.eq_zero_or_pos (spanI f xs p) with e | e
    · have : xs[spanI f xs p]'(by omega) = a0 := by
        have h := (List.getElem?_eq_some_iff.1 h0).2
        simp only [e]
        exact h
      rw [this]
      exact hp0
    · have h := List.not_of_lt_findIdx (p := fun s => decide (p ≤ f s)) (xs := xs.drop 1) (i := spanI f xs p - 1) (by unfold spanI at e ⊢; omega)
      rw [List.getElem_drop] at h
      have e2 : 1 + (spanI f xs p - 1) = spanI f xs p := by omega
      simp only [e2, decide_eq_false_iff_not] at h
      omega
  · have h : decide (p ≤ f ((xs.drop 1)[spanI f xs p]'hlt)) = true := List.findIdx_getElem (p := fun s => decide (p ≤ f s)) (w := hlt)
    have e : (xs.drop 1)[spanI f xs p]'hlt = xs[spanI f xs p + 1] := by
      have h1 : (xs.drop 1)[spanI f xs p]? = some ((xs.drop 1)[spanI f xs p]'hlt) := List.getElem?_eq_getElem hlt
      rw [List.getElem?_drop, Nat.add_comm, List.getElem?_eq_getElem hl] at h1
      exact (Option.some.inj h1).symm
    rw [e] at h
    simpa using h
end
end Go.Proofs.YteakffedlojcmaaDoor
