/- The fewest ready cabins with enough seats: the plain side. No program in sight. -/
import Derived.Test.YtnemamokjikdeaaMove
import Derived.Test.YtnemamokjikdeaaSortD
namespace Go.Proofs.Ytnemamokjikdeaa
open Go
theorem rev_ind {α : Type} {motive : List α → Prop} (h0 : motive []) (h1 : ∀ (l : List α) (a : α), motive l → motive (l ++ [a])) (l : List α) : motive l := by
  have : ∀ (n : Nat) (l : List α), l.length = n → motive l := by
    intro n
    induction n with
    | zero => intro l hl; rw [List.eq_nil_of_length_eq_zero hl]; exact h0
    | succ n ih =>
      intro l hl
      have hne : l ≠ [] := fun h => by rw [h] at hl; cases hl
      rw [← List.dropLast_concat_getLast hne]
      exact h1 _ _ (ih _ (by simp; omega))
  exact this _ l rfl
def greedy (p : Int) : List R5 → List R5 × Int
  | [] => ([], p)
  | r :: l => if p ≤ 0 then ([], p) else (r :: (greedy (p - r.b) l).1, (greedy (p - r.b) l).2)
theorem greedy_done {p : Int} (l : List R5) (h : p ≤ 0) : greedy p l = ([], p) := by
  cases l with
  | nil => rfl
  | cons r l => simp [greedy, h]
theorem greedy_step {p : Int} {r : R5} {l : List R5} (h : 0 < p) : greedy p (r :: l) = (r :: (greedy (p - r.b) l).1, (greedy (p - r.b) l).2) := by
  have : ¬ p ≤ 0 := by omega
  simp [greedy, this]
/-- What is taken, what is still wanted, what is left to look at. -/
def GAt (p0 : Int) (R : List R5) (tk : List R5) (p : Int) (rest : List R5) : Prop := greedy p0 R = (tk ++ (greedy p rest).1, (greedy p rest).2) ∧ R = tk ++ rest
theorem GAt.start (p0 : Int) (R : List R5) : GAt p0 R [] p0 R := ⟨rfl, rfl⟩
theorem GAt.step {p0 p : Int} {R tk rest : List R5} {r : R5} (h : GAt p0 R tk p (r :: rest)) (hp : 0 < p) : GAt p0 R (tk ++ [r]) (p - r.b) rest := by
  obtain ⟨h1, h2⟩ := h
  refine ⟨?_, by rw [h2]; simp⟩
  rw [h1, greedy_step hp]
  simp
theorem GAt.stop {p0 p : Int} {R tk rest : List R5} (h : GAt p0 R tk p rest) (hp : p ≤ 0 ∨ rest = []) : greedy p0 R = (tk, p) := by
  rw [h.1]
  rcases hp with hp | rfl
  · rw [greedy_done _ hp]; simp
  · simp [greedy]
/-- One number put to its place in a rising list. -/
def putK (n : Int) (l : List Int) : Nat := l.findIdx (fun x => !decide (x < n))
def putL (n : Int) (l : List Int) : List Int := l.take (putK n l) ++ n :: l.drop (putK n l)
def putAll (l : List Int) : List Int := l.foldl (fun l n => putL n l) []
theorem putK_is {n : Int} {l : List Int} {k : Nat} (hk : k ≤ l.length) (h1 : ∀ j, j < k → ∀ q, l[j]? = some q → q < n) (h2 : ∀ q, l[k]? = some q → ¬ q < n) : putK n l = k := by
  unfold putK
  rcases Nat.lt_or_ge k l.length with h | h
  · rw [List.findIdx_eq h]
    refine ⟨?_, fun j hj => ?_⟩
    · have := h2 _ (List.getElem?_eq_getElem h)
      simp; omega
    · have := h1 j hj _ (List.getElem?_eq_getElem (by omega))
      simp; omega
  · obtain rfl : k = l.length := by omega
    rw [List.findIdx_eq_length]
    intro x hx
    obtain ⟨j, hj, e⟩ := List.getElem_of_mem hx
    have := h1 j hj x (by rw [← e]; exact List.getElem?_eq_getElem hj)
    simp; omega
theorem putL_perm (n : Int) (l : List Int) : (putL n l).Perm (n :: l) := by
  unfold putL
  have := List.perm_middle (l₁ := l.take (putK n l)) (l₂ := l.drop (putK n l)) (a := n)
  rwa [List.take_append_drop] at this
theorem putL_sorted {n : Int} {l : List Int} (h : l.Pairwise (· < ·)) (hn : n ∉ l) : (putL n l).Pairwise (· < ·) := by
  have hk : putK n l ≤ l.length := List.findIdx_le_length
  have e1 : ∀ x ∈ l.take (putK n l), x < n := by
    intro x hx
    obtain ⟨j, hj, e⟩ := List.getElem_of_mem hx
    have hjk : j < putK n l := by simp at hj; omega
    have := List.not_of_lt_findIdx (p := fun x => !decide (x < n)) (xs := l) hjk
    rw [List.getElem_take] at e
    rw [e] at this
    simpa using this
  have e2 : ∀ x ∈ l.drop (putK n l), n < x := by
    intro x hx
    obtain ⟨j, hj, e⟩ := List.getElem_of_mem hx
    rw [List.getElem_drop] at e
    simp at hj
    have hkl : putK n l < l.length := by omega
    have h3 : (fun x => !decide (x < n)) (l[putK n l]'hkl) = true := List.findIdx_getElem (w := hkl)
    have h4 : ¬ (l[putK n l]'hkl) < n := by simpa using h3
    have h5 : (l[putK n l]'hkl) ≠ n := fun h => hn (h ▸ List.getElem_mem hkl)
    rcases Nat.eq_zero_or_pos j with h0 | h0
    · subst h0
      simp only [Nat.add_zero] at e
      omega
    · have := List.pairwise_iff_getElem.1 h (putK n l) (putK n l + j) hkl (by omega) (by omega)
      omega
  unfold putL
  rw [List.pairwise_append]
  refine ⟨h.sublist (List.take_sublist _ _), List.pairwise_cons.2 ⟨e2, h.sublist (List.drop_sublist _ _)⟩, fun a ha b hb => ?_⟩
  have h1 := e1 a ha
  rcases List.mem_cons.1 hb with rfl | hb'
  · exact h1
  · have := e2 b hb'
    omega
theorem putAll_snoc (l : List Int) (n : Int) : putAll (l ++ [n]) = putL n (putAll l) := by simp [putAll, List.foldl_append]
theorem putAll_perm (l : List Int) : (putAll l).Perm l := by
  refine rev_ind (motive := fun l => (putAll l).Perm l) (List.Perm.refl _) (fun l n ih => ?_) l
  · rw [putAll_snoc]
    exact (putL_perm n _).trans ((List.Perm.cons n ih).trans (List.perm_append_singleton n l).symm)
theorem putAll_sorted (l : List Int) (h : l.Nodup) : (putAll l).Pairwise (· < ·) := by
  revert h
  refine rev_ind (motive := fun l => l.Nodup → (putAll l).Pairwise (· < ·)) (fun _ => List.Pairwise.nil) (fun l n ih h => ?_) l
  · rw [List.nodup_append] at h
    rw [putAll_snoc]
    exact putL_sorted (ih h.1) fun hm => h.2.2 n ((putAll_perm l).mem_iff.1 hm) n (by simp) rfl
theorem putAll_len (l : List Int) : (putAll l).length = l.length := (putAll_perm l).length_eq
/-- What the library sorts is what is put together one by one. -/
theorem merge_is (l : List Int) (h : l.Nodup) : l.mergeSort (fun x y => decide (x ≤ y)) = putAll l := by
  refine List.Perm.eq_of_pairwise (le := fun a b => decide (a ≤ b) = true) (fun a b _ _ h1 h2 => by simp at h1 h2; omega) (List.pairwise_mergeSort (fun a b c h1 h2 => by simp at *; omega) (fun a b => by simp; omega) l) ((putAll_sorted l h).imp fun {a b} h => by simp; omega) ((List.mergeSort_perm l _).trans (putAll_perm l).symm)
theorem insD_perm {f : R5 → Int} (x : R5) (L : List R5) : (insD f x L).Perm (x :: L) := by
  unfold insD
  have h1 := List.perm_middle (l₁ := L.filter (fun y => decide (f x ≤ f y))) (l₂ := L.filter (fun y => decide (f y < f x))) (a := x)
  refine h1.trans (List.Perm.cons x ?_)
  have h2 := List.filter_append_perm (fun y => decide (f x ≤ f y)) L
  have e : (fun y => !decide (f x ≤ f y)) = (fun y => decide (f y < f x)) := by
    funext y
    by_cases h : f x ≤ f y
    · have : ¬ f y < f x := by omega
      simp [h, this]
    · have : f y < f x := by omega
      simp [h, this]
  rw [e] at h2
  exact h2
theorem sortD_perm (f : R5 → Int) (xs : List R5) : (sortD f xs).Perm xs := by
  refine rev_ind (motive := fun xs => (sortD f xs).Perm xs) (List.Perm.refl _) (fun xs x ih => ?_) xs
  · rw [sortD_snoc]
    exact (insD_perm x _).trans ((List.Perm.cons x ih).trans (List.perm_append_singleton x xs).symm)
/-- The numbers of valid cabins are all different. -/
theorem numbers_nodup {p : R5 → Bool} {xs : List R5} (h : good p xs = true) : (xs.map (fun r => r.a)).Nodup := by
  rw [List.nodup_iff_pairwise_ne, List.pairwise_map, List.pairwise_iff_getElem]
  intro i j hi hj hij
  have := good_up' h hij (List.getElem?_eq_getElem hi) (List.getElem?_eq_getElem hj)
  omega
def readyB (r : R5) : Bool := r.d == 0
def fewR (xs : List R5) : List R5 := (sortD (fun r => r.b) xs).filter readyB
theorem fewR_nodup {p : R5 → Bool} {xs : List R5} (h : good p xs = true) : ((fewR xs).map (fun r => r.a)).Nodup := by
  have h1 : ((sortD (fun r => r.b) xs).map (fun r => r.a)).Nodup := ((sortD_perm _ xs).map _).nodup_iff.2 (numbers_nodup h)
  exact h1.sublist (List.Sublist.map _ List.filter_sublist)
def fewOut (g : List R5 × Int) : List Int × Bool := if 0 < g.2 then ([], false) else (putAll (g.1.map (fun r => r.a)), true)
def fewF (xs : List R5) (p : Int) : List Int × Bool := if okList isCabin 12 xs && inB p 0 200 then fewOut (greedy p (fewR xs)) else ([], false)
end Go.Proofs.Ytnemamokjikdeaa
