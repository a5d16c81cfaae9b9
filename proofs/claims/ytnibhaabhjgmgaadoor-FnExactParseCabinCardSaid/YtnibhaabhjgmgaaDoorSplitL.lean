/- A text cut at each place where a byte stands: the plain side. -/
import Derived.Test.YtnibhaabhjgmgaaDoorLib
namespace Go.Proofs.YtnibhaabhjgmgaaDoor
def splitL (c : UInt8) : List UInt8 → List (List UInt8)
  | [] => [[]]
  | b :: r => if b = c then [] :: splitL c r else match splitL c r with
    | p :: ps => (b :: p) :: ps
    | [] => [[b]]
theorem splitL_miss {c : UInt8} : ∀ {r : List UInt8}, (∀ b ∈ r, b ≠ c) → splitL c r = [r]
  | [], _ => rfl
  | b :: r, h => by
    have hb : b ≠ c := h b (by simp)
    rw [splitL, if_neg hb, splitL_miss (fun x hx => h x (by simp [hx]))]
theorem splitL_hit {c : UInt8} : ∀ (p r : List UInt8), (∀ b ∈ p, b ≠ c) → splitL c (p ++ c :: r) = p :: splitL c r
  | [], r, _ => by simp [splitL]
  | b :: p, r, h => by
    have hb : b ≠ c := h b (by simp)
    rw [List.cons_append, splitL, if_neg hb, splitL_hit p r (fun x hx => h x (by simp [hx]))]
theorem splitL_pos (c : UInt8) (l : List UInt8) : 0 < (splitL c l).length := by
  cases l with
  | nil => simp [splitL]
  | cons b r =>
    unfold splitL
    split
    · simp
    · split <;> simp
theorem splitL_len (c : UInt8) : ∀ l : List UInt8, (splitL c l).length ≤ l.length + 1
  | [] => by simp [splitL]
  | b :: r => by
    have ih := splitL_len c r
    unfold splitL
    split
    · simp; omega
    · split
      · rename_i p ps e
        rw [e] at ih
        simp at ih ⊢
        omega
      · simp
/-- What is before the first c, and what is behind: the first piece. -/
theorem splitL_head (c : UInt8) : ∀ l : List UInt8, (splitL c l)[0]? = some (l.takeWhile (· ≠ c))
  | [] => by simp [splitL]
  | b :: r => by
    have ih := splitL_head c r
    unfold splitL
    by_cases hb : b = c
    · simp [hb]
    · rw [if_neg hb]
      cases hs : splitL c r with
      | nil => rw [hs] at ih; simp at ih
      | cons p ps =>
        rw [hs] at ih
        simp only [List.getElem?_cons_zero, Option.some.injEq] at ih
        simp [hb, ih]
def mkB (l : List UInt8) : ByteArray := ⟨l.toArray⟩
theorem mkB_data (l : List UInt8) : (mkB l).data.toList = l := by simp [mkB]
theorem mkB_of (s : ByteArray) : mkB s.data.toList = s := by simp [mkB]
theorem mkB_size (l : List UInt8) : (mkB l).size = l.length := by simp [mkB, ByteArray.size]
theorem extract_mk (s : ByteArray) (a b : Nat) : s.extract a b = mkB ((s.data.toList.drop a).take (b - a)) := by
  apply ByteArray.ext
  apply Array.toList_inj.1
  simp [mkB, ByteArray.data_extract, List.extract]
def splitS (s : ByteArray) (c : UInt8) : List ByteArray := (splitL c s.data.toList).map mkB
theorem str_eq (a b : ByteArray) : (a.toList == b.toList) = decide (a = b) := by
  rw [ByteArray.toList_eq, ByteArray.toList_eq]
  by_cases h : a = b
  · subst h
    simp
  · have : a.data.toList ≠ b.data.toList := fun e => h (ByteArray.ext (Array.toList_inj.1 e))
    rw [decide_eq_false h]
    simpa using this
/-- The state of a cut on the way: what is cut off, where the rest begins. -/
structure Cut (s : ByteArray) (c : UInt8) (k fr : Nat) (ps : List ByteArray) : Prop where
  le : fr ≤ k
  len : ps.length ≤ fr
  all : splitS s c = ps ++ (splitL c (s.data.toList.drop fr)).map mkB
  no : ∀ j (hj : j < s.size), fr ≤ j → j < k → s[j] ≠ c
theorem Cut.start (s : ByteArray) (c : UInt8) : Cut s c 0 0 [] := ⟨by omega, by simp, by simp [splitS], fun j _ _ h => absurd h (by omega)⟩
theorem Cut.skip {s : ByteArray} {c : UInt8} {k fr : Nat} {ps : List ByteArray} (h : Cut s c k fr ps) (hk : k < s.size) (hc : s[k] ≠ c) : Cut s c (k + 1) fr ps :=
  ⟨by have := h.le; omega, h.len, h.all, fun j hj h1 h2 => by
    rcases Nat.lt_or_ge j k with h' | h'
    · exact h.no j hj h1 h'
    · obtain rfl : j = k := by omega
      exact hc⟩
theorem Cut.hit {s : ByteArray} {c : UInt8} {k fr : Nat} {ps : List ByteArray} (h : Cut s c k fr ps) (hk : k < s.size) (hc : s[k] = c) : Cut s c (k + 1) (k + 1) (ps ++ [s.extract fr k]) := by
  have hle := h.le
  have hl : s.data.toList.length = s.size := by simp
  refine ⟨by omega, by have := h.len; simp; omega, ?_, fun j _ h1 h2 => absurd h2 (by omega)⟩
  rw [h.all, extract_mk]
  have e : s.data.toList.drop fr = (s.data.toList.drop fr).take (k - fr) ++ c :: s.data.toList.drop (k + 1) := by
    have e1 : (s.data.toList.drop fr).drop (k - fr) = s.data.toList.drop k := by rw [List.drop_drop]; congr 1; omega
    have e2 : s.data.toList.drop k = c :: s.data.toList.drop (k + 1) := by
      rw [List.drop_eq_getElem_cons (by omega)]
      congr 1
    rw [← e2, ← e1, List.take_append_drop]
  have hp : ∀ b ∈ (s.data.toList.drop fr).take (k - fr), b ≠ c := by
    intro b hb
    obtain ⟨j, hj, rfl⟩ := List.getElem_of_mem hb
    have hj1 : j < k - fr := by simp at hj; omega
    have hj2 : fr + j < s.size := by omega
    have := h.no (fr + j) hj2 (by omega) (by omega)
    intro e
    simp at e
    exact this e
  generalize hP : (s.data.toList.drop fr).take (k - fr) = p at e hp ⊢
  rw [e, splitL_hit p _ hp]
  simp
theorem Cut.done {s : ByteArray} {c : UInt8} {fr : Nat} {ps : List ByteArray} (h : Cut s c s.size fr ps) : splitS s c = ps ++ [s.extract fr s.size] := by
  have hl : s.data.toList.length = s.size := by simp
  rw [h.all, extract_mk]
  have e : (s.data.toList.drop fr).take (s.size - fr) = s.data.toList.drop fr := List.take_of_length_le (by simp)
  rw [e, splitL_miss]
  · simp
  · intro b hb
    obtain ⟨j, hj, rfl⟩ := List.getElem_of_mem hb
    have hj2 : fr + j < s.size := by simp at hj; omega
    have := h.no (fr + j) hj2 (by omega) hj2
    intro e
    simp at e
    exact this e
end Go.Proofs.YtnibhaabhjgmgaaDoor
