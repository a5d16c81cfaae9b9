/- Lists of structs sorted by a number, the greatest first, equals in their order: the plain side; the library's insertion sort is that. No program in sight. -/
import Derived.Test.YtnemamokjikdeaaRowK
import Derived.Sort.Defs
namespace Go.Proofs.Ytnemamokjikdeaa
open Go Go.Sort
/-- x behind all that are not less. -/
def insD (f : R5 → Int) (x : R5) (L : List R5) : List R5 := L.filter (fun y => decide (f x ≤ f y)) ++ x :: L.filter (fun y => decide (f y < f x))
def sortD (f : R5 → Int) (xs : List R5) : List R5 := xs.foldl (fun L x => insD f x L) []
def SortedD (f : R5 → Int) (L : List R5) : Prop := L.Pairwise (fun a b => f b ≤ f a)
section
variable {f : R5 → Int} {x : R5} {L : List R5}
theorem insD_len : (insD f x L).length = L.length + 1 := by
  have : ∀ L : List R5, (L.filter (fun y => decide (f x ≤ f y))).length + (L.filter (fun y => decide (f y < f x))).length = L.length := by
    intro L
    induction L with
    | nil => rfl
    | cons a L ih =>
      by_cases h : f x ≤ f a
      · have h' : ¬ f a < f x := by omega
        simp [h, h']; omega
      · have h' : f a < f x := by omega
        simp [h, h']; omega
  have := this L
  simp only [insD, List.length_append, List.length_cons]
  omega
theorem insD_sorted (h : SortedD f L) : SortedD f (insD f x L) := by
  unfold SortedD insD
  rw [List.pairwise_append]
  refine ⟨List.Pairwise.filter _ h, List.pairwise_cons.2 ⟨fun b hb => ?_, List.Pairwise.filter _ h⟩, fun a ha b hb => ?_⟩
  · have := (List.mem_filter.1 hb).2
    simp at this
    omega
  · have h1 := (List.mem_filter.1 ha).2
    simp at h1
    rcases List.mem_cons.1 hb with rfl | hb'
    · exact h1
    · have h2 := (List.mem_filter.1 hb').2
      simp at h2
      omega
theorem split_sorted (h : SortedD f L) (z : Int) : L.filter (fun y => decide (z ≤ f y)) ++ L.filter (fun y => decide (f y < z)) = L := by
  induction L with
  | nil => rfl
  | cons a L ih =>
    obtain ⟨h1, h2⟩ := List.pairwise_cons.1 h
    by_cases hz : z ≤ f a
    · have hz' : ¬ f a < z := by omega
      simp only [List.filter_cons, hz, hz', decide_true, decide_false, if_true, Bool.false_eq_true, if_false, List.cons_append]
      rw [ih h2]
    · have hz' : f a < z := by omega
      have e1 : L.filter (fun y => decide (z ≤ f y)) = [] := List.filter_eq_nil_iff.2 fun b hb => by have := h1 b hb; simp; omega
      have e2 : L.filter (fun y => decide (f y < z)) = L := List.filter_eq_self.2 fun b hb => by have := h1 b hb; simp; omega
      simp [hz, hz', e1, e2]
theorem insD_end (hx : ∀ y ∈ L, f x ≤ f y) : insD f x L = L ++ [x] := by
  unfold insD
  rw [List.filter_eq_self.2 (fun y hy => by simpa using hx y hy), List.filter_eq_nil_iff.2 (fun y hy => by have := hx y hy; simp; omega)]
theorem insD_snoc {y : R5} (hy : f y < f x) : insD f x (L ++ [y]) = insD f x L ++ [y] := by
  have hy' : ¬ f x ≤ f y := by omega
  simp [insD, List.filter_append, hy, hy']
theorem insD_filter_yes {p : R5 → Bool} (hp : p x = true) : insD f x (L.filter p) = (insD f x L).filter p := by
  unfold insD
  simp only [List.filter_append, List.filter_cons, hp, if_true, List.filter_filter, Bool.and_comm]
theorem insD_filter_no {p : R5 → Bool} (h : SortedD f L) (hp : p x = false) : L.filter p = (insD f x L).filter p := by
  unfold insD
  simp only [List.filter_append, List.filter_cons, hp, Bool.false_eq_true, if_false]
  rw [← List.filter_append, split_sorted h]
theorem fold_sorted (xs : List R5) : ∀ L, SortedD f L → SortedD f (xs.foldl (fun L x => insD f x L) L) := by
  induction xs with
  | nil => intro L h; exact h
  | cons x xs ih => intro L h; exact ih _ (insD_sorted h)
theorem sortD_sorted (xs : List R5) : SortedD f (sortD f xs) := fold_sorted xs [] List.Pairwise.nil
theorem fold_filter (p : R5 → Bool) (xs : List R5) : ∀ L, SortedD f L → (xs.filter p).foldl (fun L x => insD f x L) (L.filter p) = (xs.foldl (fun L x => insD f x L) L).filter p := by
  induction xs with
  | nil => intro L _; rfl
  | cons x xs ih =>
    intro L h
    rw [List.foldl_cons, ← ih _ (insD_sorted h)]
    cases hp : p x
    · rw [List.filter_cons, hp, ← insD_filter_no h hp]
      rfl
    · rw [List.filter_cons, hp, ← insD_filter_yes hp]
      rfl
/-- What is sorted of the chosen is what is chosen of the sorted. -/
theorem sortD_filter (p : R5 → Bool) (xs : List R5) : sortD f (xs.filter p) = (sortD f xs).filter p := fold_filter p xs [] List.Pairwise.nil
theorem sortD_snoc (xs : List R5) (x : R5) : sortD f (xs ++ [x]) = insD f x (sortD f xs) := by simp [sortD, List.foldl_append]
theorem sortD_len (xs : List R5) : (sortD f xs).length = xs.length := by
  have : ∀ (xs L : List R5), (xs.foldl (fun L x => insD f x L) L).length = L.length + xs.length := by
    intro xs
    induction xs with
    | nil => intro L; rfl
    | cons x xs ih => intro L; rw [List.foldl_cons, ih, insD_len, List.length_cons]; omega
  simpa [sortD] using this xs []
theorem insD_mem {y : R5} : y ∈ insD f x L ↔ y = x ∨ y ∈ L := by
  unfold insD
  simp only [List.mem_append, List.mem_cons, List.mem_filter, decide_eq_true_eq]
  constructor
  · rintro (⟨h, _⟩ | rfl | ⟨h, _⟩)
    · exact .inr h
    · exact .inl rfl
    · exact .inr h
  · rintro (rfl | h)
    · exact .inr (.inl rfl)
    · rcases Int.lt_or_le (f y) (f x) with h' | h'
      · exact .inr (.inr ⟨h, h'⟩)
      · exact .inl ⟨h, h'⟩
theorem sortD_mem {y : R5} (xs : List R5) : y ∈ sortD f xs ↔ y ∈ xs := by
  have : ∀ (xs L : List R5), y ∈ xs.foldl (fun L x => insD f x L) L ↔ y ∈ L ∨ y ∈ xs := by
    intro xs
    induction xs with
    | nil => intro L; simp
    | cons x xs ih =>
      intro L
      rw [List.foldl_cons, ih, insD_mem, List.mem_cons]
      constructor
      · rintro ((h | h) | h)
        · exact .inr (.inl h)
        · exact .inl h
        · exact .inr (.inr h)
      · rintro (h | h | h)
        · exact .inl (.inr h)
        · exact .inl (.inl h)
        · exact .inr h
  simpa [sortD] using this xs []
end
theorem inner_is (f : R5 → Int) (x : R5) : ∀ (P T : List R5), SortedD f P → insInner (fun a b => decide (f b < f a)) 0 P.length (P ++ x :: T).toArray = (insD f x P ++ T).toArray := by
  intro P
  induction hn : P.length generalizing P with
  | zero =>
    intro T _
    obtain rfl : P = [] := List.eq_nil_of_length_eq_zero hn
    rfl
  | succ j ih =>
    intro T hs
    obtain ⟨P', y, rfl⟩ : ∃ P' y, P = P' ++ [y] := by
      have hne : P ≠ [] := fun h => by rw [h] at hn; cases hn
      exact ⟨P.dropLast, P.getLast hne, (List.dropLast_concat_getLast hne).symm⟩
    have hl : P'.length = j := by simpa using hn
    have e1 : (P' ++ [y] ++ x :: T).toArray[j + 1]! = x := by
      have : (P' ++ [y] ++ x :: T)[j + 1]? = some x := by
        rw [List.getElem?_append_right (by simp; omega)]
        simp [hl]
      rw [List.getElem!_toArray, List.getElem!_eq_getElem?_getD, this]
      rfl
    have e0 : (P' ++ [y] ++ x :: T).toArray[j]! = y := by
      have : (P' ++ [y] ++ x :: T)[j]? = some y := by
        rw [List.append_assoc, List.getElem?_append_right (by omega)]
        simp [hl]
      rw [List.getElem!_toArray, List.getElem!_eq_getElem?_getD, this]
      rfl
    unfold insInner
    rw [e1, e0]
    by_cases h : f y < f x
    · have e2 : swp (P' ++ [y] ++ x :: T).toArray (j + 1) j = (P' ++ x :: (y :: T)).toArray := by
        unfold swp
        rw [e1, e0]
        simp only [List.setIfInBounds_toArray]
        congr 1
        rw [List.append_assoc, List.set_append, if_neg (by omega), show j + 1 - P'.length = 1 by omega, List.set_append, if_neg (by omega), show j - P'.length = 0 by omega]
        rfl
      have hs' : SortedD f P' := (List.pairwise_append.1 hs).1
      simp only [show j + 1 > 0 by omega, h, decide_true, Bool.and_self, if_true]
      rw [e2, ih P' hl (y :: T) hs', insD_snoc h]
      simp
    · simp only [show j + 1 > 0 by omega, h, decide_true, decide_false, Bool.and_false, Bool.false_eq_true, if_false]
      rw [insD_end]
      · simp
      · intro z hz
        rcases List.mem_append.1 hz with hz' | hz'
        · have := (List.pairwise_append.1 hs).2.2 z hz' y (by simp)
          omega
        · obtain rfl : z = y := by simpa using hz'
          omega
theorem outer_is (f : R5 → Int) (xs : List R5) : ∀ (m i : Nat), xs.length - i = m → i ≤ xs.length → insOuter (fun a b => decide (f b < f a)) 0 xs.length i (sortD f (xs.take i) ++ xs.drop i).toArray = (sortD f xs).toArray := by
  intro m
  induction m with
  | zero =>
    intro i hm hi
    obtain rfl : i = xs.length := by omega
    unfold insOuter
    simp
  | succ m ih =>
    intro i hm hi
    have hlt : i < xs.length := by omega
    unfold insOuter
    rw [if_pos hlt, List.drop_eq_getElem_cons hlt]
    have hl : (sortD f (xs.take i)).length = i := by rw [sortD_len]; simp; omega
    have h1 := inner_is f (xs[i]) (sortD f (xs.take i)) (xs.drop (i + 1)) (sortD_sorted _)
    rw [hl] at h1
    rw [h1, ← sortD_snoc, ← List.take_succ_eq_append_getElem hlt]
    exact ih (i + 1) (by omega) (by omega)
/-- The library's insertion sort, read as a list. -/
theorem insertion_is (f : R5 → Int) (xs : List R5) : insertionSort (fun a b => decide (f b < f a)) xs.toArray 0 xs.length = (sortD f xs).toArray := by
  unfold insertionSort
  cases xs with
  | nil => unfold insOuter; rfl
  | cons a xs =>
    have := outer_is f (a :: xs) xs.length 1 (by simp) (by simp)
    have e : sortD f ((a :: xs).take 1) ++ (a :: xs).drop 1 = a :: xs := by simp [sortD, insD]
    rw [e] at this
    exact this
end Go.Proofs.Ytnemamokjikdeaa
