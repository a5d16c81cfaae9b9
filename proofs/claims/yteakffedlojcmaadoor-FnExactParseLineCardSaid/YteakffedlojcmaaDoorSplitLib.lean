/- A text cut at each place where a byte stands: the library's function, as the shelf tells it. -/
import Derived.Test.YteakffedlojcmaaDoorSplit
import Derived.Test.YteakffedlojcmaaDoorMaxLen
import Derived.Test.YteakffedlojcmaaDoorShelfSplit
namespace Go.Proofs.YteakffedlojcmaaDoor
open Go.RowKit
theorem index_cons (b c : UInt8) (l : List UInt8) : Lib.index (b :: l) [c] = if b = c then 0 else if Lib.index l [c] == -1 then -1 else Lib.index l [c] + 1 := by
  rw [Lib.index]
  by_cases h : b = c
  · subst h; simp [List.isPrefixOf]
  · have h' : (c == b) = false := by simpa using fun e => h e.symm
    simp [List.isPrefixOf, h, h']
theorem index_cases (c : UInt8) : ∀ l : List UInt8, (Lib.index l [c] = -1 ∧ ∀ b ∈ l, b ≠ c) ∨ ∃ p r, l = p ++ c :: r ∧ (∀ b ∈ p, b ≠ c) ∧ Lib.index l [c] = (p.length : Int)
  | [] => .inl ⟨by simp [Lib.index], by simp⟩
  | b :: l => by
    rw [index_cons]
    by_cases h : b = c
    · exact .inr ⟨[], l, by simp [h], by simp, by simp [h]⟩
    · rcases index_cases c l with ⟨h1, h2⟩ | ⟨p, r, rfl, h2, h3⟩
      · refine .inl ⟨by simp [h, h1], fun x hx => ?_⟩
        rcases List.mem_cons.1 hx with rfl | hx
        · exact h
        · exact h2 x hx
      · refine .inr ⟨b :: p, r, rfl, fun x hx => ?_, ?_⟩
        · rcases List.mem_cons.1 hx with rfl | hx
          · exact h
          · exact h2 x hx
        · have h4 : (Lib.index (p ++ c :: r) [c] == -1) = false := by rw [h3, beq_eq_false_iff_ne]; omega
          rw [if_neg h, h4, h3]
          simp
theorem split_lib (c : UInt8) : ∀ (n : Nat) (l : List UInt8), l.length ≤ n → (splitL c l).length = Lib.count l [c] + 1 ∧ Lib.splitK [c] 0 (Lib.count l [c]) l = splitL c l
  | n, l, hn => by
    rcases index_cases c l with ⟨h1, h2⟩ | ⟨p, r, rfl, h2, h3⟩
    · rw [Lib.count_miss h1, splitL_miss h2]
      exact ⟨rfl, rfl⟩
    · have hc : Lib.count (p ++ c :: r) [c] = 1 + Lib.count r [c] := by
        rw [Lib.count_hit (by simp) h3]
        congr 2
        simp
      match n with
      | 0 => simp at hn
      | n + 1 =>
        obtain ⟨e1, e2⟩ := split_lib c n r (by simp at hn; omega)
        rw [hc, splitL_hit p r h2]
        refine ⟨by simp; omega, ?_⟩
        rw [Nat.add_comm, Lib.splitK, if_neg (by rw [h3, beq_iff_eq]; omega), h3]
        have e3 : ((p.length : Int)).toNat = p.length := by omega
        rw [e3, Nat.add_zero]
        have e4 : (p ++ c :: r).take p.length = p := by simp
        have e5 : (p ++ c :: r).drop (p.length + [c].length) = r := by simp
        rw [e4, e5, e2]
theorem splitS_lib (s : ByteArray) (c : UInt8) : Lib.splitB ⟨#[c]⟩ 0 (Lib.countB s ⟨#[c]⟩) s = splitS s c ∧ Lib.countB s ⟨#[c]⟩ + 1 = (splitS s c).length := by
  obtain ⟨e1, e2⟩ := split_lib c _ s.data.toList (Nat.le_refl _)
  have e3 : Lib.countB s ⟨#[c]⟩ = Lib.count s.data.toList [c] := rfl
  refine ⟨?_, by rw [e3, ← e1]; simp [splitS]⟩
  have h := Lib.splitB_data ⟨#[c]⟩ 0 (Lib.countB s ⟨#[c]⟩) s
  rw [e3, e2] at h
  have h2 := congrArg (List.map mkB) h
  rw [List.map_map] at h2
  have e4 : (mkB ∘ fun x : ByteArray => x.data.toList) = id := by funext x; simp [mkB]
  rw [e4, List.map_id] at h2
  rw [e3]
  exact h2
theorem splitlib_any (s : ByteArray) (c : UInt8) (hs : s.size ≤ 1048576) (w : World) (hm : Mx w) : Calls Tryd.prog 37 #[.string s, .string ⟨#[c]⟩] w (StrsB w (splitS s c)) := by
  obtain ⟨m, hm⟩ := hm
  obtain ⟨e1, e2⟩ := splitS_lib s c
  refine Calls.mono (Tryd.strings_Split s ⟨#[c]⟩ m w (by omega) hm (by simp [ByteArray.size])) fun e w' ⟨he, hw⟩ => ?_
  rw [e1] at hw
  rw [e2] at he
  subst he hw
  refine ⟨w.heap.size, _, rfl, Nat.le_refl _, ?_, bw_alloc (Below.refl _ _) _⟩
  have hl := splitS_len s c
  exact ⟨by simp, .inr ⟨w.heap.size, _, _, rfl, Nat.le_refl _, heap_alloc_new w _, Nat.le_refl _, by unfold maxLen; omega, by simp, by rw [Nat.mul_one]; exact List.take_of_length_le (by simp)⟩⟩
end Go.Proofs.YteakffedlojcmaaDoor
