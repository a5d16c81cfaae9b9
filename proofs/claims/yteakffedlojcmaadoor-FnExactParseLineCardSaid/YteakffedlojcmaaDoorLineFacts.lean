/- What a valid line is; its end; the span with a place; the chord; the distances in a span. No walk. -/
import Derived.Test.YteakffedlojcmaaDoorLine
import Derived.Test.YteakffedlojcmaaDoorSpanPlain
namespace Go.Proofs.YteakffedlojcmaaDoor
open Go.RowKit
structure LineOk (xs : List Sup) : Prop where
  len : 2 ≤ xs.length ∧ xs.length ≤ 8
  bd : ∀ (i : Nat) (r : Sup), xs[i]? = some r → (0 ≤ r.at_ ∧ r.at_ ≤ 3000) ∧ (0 ≤ r.h ∧ r.h ≤ 2000)
  up : ∀ (i : Nat) (q r : Sup), xs[i]? = some q → xs[i + 1]? = some r → q.at_ < r.at_
  head : ∀ r, xs[0]? = some r → r.at_ = 0
theorem line_ok {xs : List Sup} (h : okLine xs = true) : LineOk xs := by
  simp only [okLine, Bool.and_eq_true] at h
  obtain ⟨h1, h2, h3, h4⟩ := h
  have hl := inB_t h1
  refine ⟨by omega, fun i r hr => ?_, fun i q r hq hr => ?_, fun r hr => ?_⟩
  · have := chain_each h4 hr
    simp only [okSup, Bool.and_eq_true] at this
    exact ⟨inB_t this.1, inB_t this.2⟩
  · have := chain_rel h4 hq hr
    simpa [supLt] using this
  · simp only [headOk, hr, Bool.and_eq_true, beq_iff_eq] at h2
    exact h2.1
def lastAt (xs : List Sup) : Int := match xs[xs.length - 1]? with | some s => s.at_ | none => 0
def onLine (xs : List Sup) (p : Int) : Bool := okLine xs && inB p 0 (lastAt xs)
def supAt (xs : List Sup) (i : Nat) : Sup := (xs[i]?).getD Sup.zero
theorem supAt_of {xs : List Sup} {i : Nat} {r : Sup} (h : xs[i]? = some r) : supAt xs i = r := by simp [supAt, h]
def spanF (xs : List Sup) (p : Int) : Nat := spanI (fun s => s.at_) xs p
/-- The two ends of the span with a place. -/
def spA (xs : List Sup) (p : Int) : Sup := supAt xs (spanF xs p)
def spB (xs : List Sup) (p : Int) : Sup := supAt xs (spanF xs p + 1)
theorem lastAt_is {xs : List Sup} (h : LineOk xs) : ∃ z, xs[xs.length - 1]? = some z ∧ lastAt xs = z.at_ ∧ 0 ≤ lastAt xs ∧ lastAt xs ≤ 3000 := by
  have hl := h.len
  have hz : xs[xs.length - 1]? = some (xs[xs.length - 1]'(by omega)) := List.getElem?_eq_getElem _
  have e : lastAt xs = (xs[xs.length - 1]'(by omega)).at_ := by simp only [lastAt, hz]
  have := (h.bd _ _ hz).1
  exact ⟨_, hz, e, by omega, by omega⟩
theorem onLine_t {xs : List Sup} {p : Int} (h : onLine xs p = true) : okLine xs = true ∧ LineOk xs ∧ 0 ≤ p ∧ p ≤ lastAt xs := by
  simp only [onLine, Bool.and_eq_true] at h
  exact ⟨h.1, line_ok h.1, inB_t h.2⟩
theorem onLine_zero (xs : List Sup) : onLine xs 0 = okLine xs := by
  cases h : okLine xs
  · simp [onLine, h]
  · obtain ⟨z, _, _, h1, h2⟩ := lastAt_is (line_ok h)
    simp [onLine, h, inB, h1]
/-- What is known of the span with a place of a valid line. -/
structure SpanOk (xs : List Sup) (p : Int) : Prop where
  lt : spanF xs p + 1 < xs.length
  a : xs[spanF xs p]? = some (spA xs p)
  b : xs[spanF xs p + 1]? = some (spB xs p)
  le : (spA xs p).at_ ≤ p ∧ p ≤ (spB xs p).at_
  up : (spA xs p).at_ < (spB xs p).at_
  ends : 0 ≤ (spA xs p).at_ ∧ (spB xs p).at_ ≤ 3000
  ha : 0 ≤ (spA xs p).h ∧ (spA xs p).h ≤ 2000
  hb : 0 ≤ (spB xs p).h ∧ (spB xs p).h ≤ 2000
theorem span_ok {xs : List Sup} {p : Int} (h : onLine xs p = true) : SpanOk xs p := by
  obtain ⟨-, hL, p0, p1⟩ := onLine_t h
  obtain ⟨z, hz, ez, -, -⟩ := lastAt_is hL
  have hl := hL.len
  have h0 : xs[0]? = some (xs[0]'(by omega)) := List.getElem?_eq_getElem _
  have e0 := hL.head _ h0
  obtain ⟨a, b, ha, hb, pa, pb⟩ := spanI_is (f := fun s : Sup => s.at_) (p := p) h0 hz hl.1 (by omega) (by omega)
  have ea : spA xs p = a := supAt_of ha
  have eb : spB xs p = b := supAt_of hb
  have := hL.bd _ _ ha
  have := hL.bd _ _ hb
  have := hL.up _ _ _ ha hb
  refine ⟨(List.getElem?_eq_some_iff.1 hb).1, by rw [ea]; exact ha, by rw [eb]; exact hb, by rw [ea, eb]; exact ⟨pa, pb⟩, ?_, ?_, ?_, ?_⟩ <;> (try rw [ea]) <;> (try rw [eb]) <;> omega
/-- A support of a valid line that lies ahead of a place of it is not the last one. -/
theorem not_last {xs : List Sup} {p : Int} {k n : Nat} {r : Sup} (h : onLine xs p = true) (hn : xs.length = n) (hr : xs[k]? = some r) (hlt : r.at_ < p) : k + 1 < n := by
  obtain ⟨-, hL, p0, p1⟩ := onLine_t h
  obtain ⟨z, hz, ez, -, -⟩ := lastAt_is hL
  have hk : k < xs.length := (List.getElem?_eq_some_iff.1 hr).1
  rcases Nat.lt_or_ge (k + 1) n with h' | h'
  · exact h'
  · have e : k = xs.length - 1 := by omega
    rw [e, hz] at hr
    simp only [Option.some.injEq] at hr
    subst hr
    omega
theorem span_step {xs : List Sup} {p : Int} {k : Nat} {r : Sup} (h : ∀ j, j < k → ∀ q : Sup, xs[j + 1]? = some q → q.at_ < p) (hr : xs[k + 1]? = some r) (hlt : r.at_ < p) : ∀ j, j < k + 1 → ∀ q : Sup, xs[j + 1]? = some q → q.at_ < p := fun j hj q hq => by
  rcases Nat.lt_or_ge j k with h' | h'
  · exact h j h' q hq
  · obtain rfl : j = k := by omega
    rw [hr] at hq
    simp only [Option.some.injEq] at hq
    subst hq
    exact hlt
def chordN (xs : List Sup) (p : Int) : Int := (spA xs p).h * ((spB xs p).at_ - p) + (spB xs p).h * (p - (spA xs p).at_)
def spanL (xs : List Sup) (p : Int) : Int := (spB xs p).at_ - (spA xs p).at_
/-- The product of the distances of a place from the ends of its span. -/
def bendX (xs : List Sup) (p : Int) : Int := (p - (spA xs p).at_) * ((spB xs p).at_ - p)
theorem mul_bd {a b A B : Int} (h0 : 0 ≤ a) (h1 : a ≤ A) (h2 : 0 ≤ b) (h3 : b ≤ B) : 0 ≤ a * b ∧ a * b ≤ A * B :=
  ⟨Int.mul_nonneg h0 h2, Int.mul_le_mul h1 h3 h2 (by omega)⟩
theorem smul_bd {a b A B : Int} (h0 : -A ≤ a) (h1 : a ≤ A) (h2 : 0 ≤ b) (h3 : b ≤ B) : -(A * B) ≤ a * b ∧ a * b ≤ A * B := by
  rcases Int.lt_or_le a 0 with h | h
  · have := mul_bd (a := -a) (b := b) (A := A) (B := B) (by omega) (by omega) h2 h3
    rw [Int.neg_mul] at this
    omega
  · have := mul_bd (a := a) (b := b) (A := A) (B := B) h h1 h2 h3
    omega
theorem bendX_bd {xs : List Sup} {p : Int} (h : onLine xs p = true) : 0 ≤ bendX xs p ∧ bendX xs p ≤ 9000000 := by
  obtain ⟨_, _, _, h1, _, h2, _, _⟩ := span_ok h
  exact mul_bd (A := 3000) (B := 3000) (by omega) (by omega) (by omega) (by omega)
theorem spanL_bd {xs : List Sup} {p : Int} (h : onLine xs p = true) : 1 ≤ spanL xs p ∧ spanL xs p ≤ 3000 := by
  obtain ⟨_, _, _, h1, h3, h2, _, _⟩ := span_ok h
  unfold spanL
  omega
theorem chordN_bd {xs : List Sup} {p : Int} (h : onLine xs p = true) : 0 ≤ chordN xs p ∧ chordN xs p ≤ 12000000 := by
  obtain ⟨_, _, _, h1, h3, h2, h4, h5⟩ := span_ok h
  have m1 := mul_bd (a := (spA xs p).h) (b := (spB xs p).at_ - p) (A := 2000) (B := 3000) (by omega) (by omega) (by omega) (by omega)
  have m2 := mul_bd (a := (spB xs p).h) (b := p - (spA xs p).at_) (A := 2000) (B := 3000) (by omega) (by omega) (by omega) (by omega)
  unfold chordN
  omega
end Go.Proofs.YteakffedlojcmaaDoor
