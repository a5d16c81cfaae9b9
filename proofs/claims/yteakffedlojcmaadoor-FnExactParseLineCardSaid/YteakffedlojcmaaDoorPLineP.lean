/- The line with a text: the plain side. -/
import Derived.Test.YteakffedlojcmaaDoorText
import Derived.Test.YteakffedlojcmaaDoorReadL
import Derived.Test.YteakffedlojcmaaDoorTextI
namespace Go.Proofs.YteakffedlojcmaaDoor
open Go.RowKit
theorem itoa_no (n : Int) (c : UInt8) (h : c.toNat < 45 ∨ 57 < c.toNat) : ∀ b ∈ Lib.itoa n, b ≠ c := by
  intro b hb e
  subst e
  unfold Lib.itoa at hb
  split at hb
  · rcases List.mem_cons.1 hb with rfl | hb
    · simp at h
    · have := (dec_ok n.natAbs).dig _ hb
      omega
  · have := (dec_ok n.toNat).dig _ hb
    omega
theorem split_join (c : UInt8) : ∀ (ls : List (List UInt8)), ls ≠ [] → (∀ l ∈ ls, ∀ b ∈ l, b ≠ c) → splitL c (Lib.join ls [c]) = ls
  | [], h, _ => absurd rfl h
  | [l], _, h => by rw [Lib.join_one]; exact splitL_miss (h l (by simp))
  | l :: m :: r, _, h => by
    have ih := split_join c (m :: r) (by simp) (fun x hx => h x (by simp [hx]))
    have e : Lib.join (l :: m :: r) [c] = l ++ c :: Lib.join (m :: r) [c] := by
      rw [Lib.join_cons, Lib.join_cons]
      simp [Lib.joinTail]
    rw [e, splitL_hit l _ (h l (by simp)), ih]
theorem supL_is (r : Sup) : supL r = (if r.st then 83 else 84) :: (Lib.itoa r.at_ ++ 58 :: Lib.itoa r.h) := by
  unfold supL supB letB
  rw [ByteArray.data_append, ByteArray.data_append, ByteArray.data_append]
  cases r.st <;> simp [numB]
theorem supL_no (r : Sup) : ∀ b ∈ supL r, b ≠ 32 := by
  rw [supL_is]
  intro b hb
  rcases List.mem_cons.1 hb with rfl | hb
  · cases r.st <;> decide
  · rcases List.mem_append.1 hb with hb | hb
    · exact itoa_no _ 32 (by decide) b hb
    · rcases List.mem_cons.1 hb with rfl | hb
      · decide
      · exact itoa_no _ 32 (by decide) b hb
theorem words_text {xs : List Sup} (h : xs ≠ []) : splitS (textOf xs) 32 = xs.map supB := by
  unfold splitS textOf
  rw [mkB_data, split_join 32 _ (by simpa using h) (fun l hl => by
    obtain ⟨r, _, rfl⟩ := List.mem_map.1 hl
    exact supL_no r)]
  rw [List.map_map]
  refine List.map_congr_left fun r _ => ?_
  simp [supL, mkB_of]
theorem numB_mk (n : Int) : numB n = mkB (Lib.itoa n) := rfl
/-- The two numbers behind the letter. -/
theorem split_num (r : Sup) : splitS (mkB (Lib.itoa r.at_ ++ 58 :: Lib.itoa r.h)) 58 = [numB r.at_, numB r.h] := by
  unfold splitS
  rw [mkB_data, splitL_hit _ _ (itoa_no _ 58 (by decide)), splitL_miss (itoa_no _ 58 (by decide))]
  rfl
theorem supB_mk (r : Sup) : supB r = mkB ((if r.st then 83 else 84) :: (Lib.itoa r.at_ ++ 58 :: Lib.itoa r.h)) := by
  rw [← supL_is, supL, mkB_of]
theorem supB_tail (r : Sup) : (supB r).extract 1 (supB r).size = mkB (Lib.itoa r.at_ ++ 58 :: Lib.itoa r.h) := by
  rw [extract_mk, supB_mk, mkB_data, mkB_size, List.drop_succ_cons, List.drop_zero, List.length_cons, Nat.add_sub_cancel, List.take_length]
theorem itoa_pos (n : Int) : 0 < (Lib.itoa n).length := by
  unfold Lib.itoa
  split
  · simp
  · exact (dec_ok _).pos
/-- The numbers between separators: the program's reading. -/
noncomputable def rnF (s : ByteArray) (c : UInt8) (k : Nat) : List Int × Bool := if (splitS s c).length = k ∧ (splitS s c).all (fun p => (readF p).2) = true then ((splitS s c).map (fun p => (readF p).1), true) else ([], false)
/-- One word, as the program reads it. -/
noncomputable def supI (p : ByteArray) : Option Sup := if p.size < 2 then none else if (rnF (p.extract 1 p.size) 58 2).2 = true then some ⟨(rnF (p.extract 1 p.size) 58 2).1.getD 0 0, (rnF (p.extract 1 p.size) 58 2).1.getD 1 0, decide (p.data.toList[0]? = some 83)⟩ else none
/-- One word, as the reference reads it. -/
noncomputable def supS (p : ByteArray) : Option Sup := match splitS p 58 with
  | [a, b] => if a.size < 2 then none else some ⟨(readF (a.extract 1 a.size)).1, (readF b).1, decide (a.data.toList[0]? = some 83)⟩
  | _ => none
theorem supI_of {r : Sup} (h : okSup r = true) : supI (supB r) = some r := by
  simp only [okSup, Bool.and_eq_true] at h
  have b1 := inB_t h.1
  have b2 := inB_t h.2
  have p1 := itoa_pos r.at_
  have f1 := readF_some (m := r.at_) (by omega) (by omega) rfl
  have f2 := readF_some (m := r.h) (by omega) (by omega) rfl
  have hs : ¬ (supB r).size < 2 := by rw [supB_mk, mkB_size]; simp; omega
  have e : rnF ((supB r).extract 1 (supB r).size) 58 2 = ([r.at_, r.h], true) := by
    unfold rnF
    rw [supB_tail, split_num, if_pos ⟨rfl, by simp [f1, f2]⟩]
    simp [f1, f2]
  unfold supI
  rw [if_neg hs, e, if_pos rfl]
  have e2 : decide ((supB r).data.toList[0]? = some 83) = r.st := by
    rw [supB_mk, mkB_data]
    cases r.st <;> simp
  rw [e2]
  rfl
theorem split_sup (r : Sup) : splitS (supB r) 58 = [mkB ((if r.st then 83 else 84) :: Lib.itoa r.at_), numB r.h] := by
  unfold splitS
  rw [supB_mk, mkB_data, ← List.cons_append, splitL_hit, splitL_miss (itoa_no _ 58 (by decide))]
  · rfl
  · intro b hb
    rcases List.mem_cons.1 hb with rfl | hb
    · cases r.st <;> decide
    · exact itoa_no _ 58 (by decide) b hb
theorem supS_of {r : Sup} (h : okSup r = true) : supS (supB r) = some r := by
  simp only [okSup, Bool.and_eq_true] at h
  have b1 := inB_t h.1
  have b2 := inB_t h.2
  have p1 := itoa_pos r.at_
  have f1 := readF_some (m := r.at_) (by omega) (by omega) rfl
  have f2 := readF_some (m := r.h) (by omega) (by omega) rfl
  unfold supS
  rw [split_sup]
  simp only []
  have e1 : (mkB ((if r.st then 83 else 84) :: Lib.itoa r.at_)).extract 1 (mkB ((if r.st then 83 else 84) :: Lib.itoa r.at_)).size = numB r.at_ := by
    rw [extract_mk, mkB_data, mkB_size, List.drop_succ_cons, List.drop_zero, List.length_cons, Nat.add_sub_cancel, List.take_length, numB_mk]
  rw [if_neg (by rw [mkB_size]; simp; omega), e1, f1, f2, mkB_data]
  have e2 : decide (((if r.st then 83 else 84) :: Lib.itoa r.at_)[0]? = some (83 : UInt8)) = r.st := by cases r.st <;> simp
  rw [e2]
open Classical in
/-- The line with a text, and whether there is one. -/
noncomputable def plF (s : ByteArray) : List Sup × Bool := if h : ∃ xs : List Sup, okLine xs = true ∧ textOf xs = s then (h.choose, true) else ([], false)
theorem line_ne {xs : List Sup} (h : okLine xs = true) : xs ≠ [] := fun e => by
  have := (line_ok h).len
  rw [e] at this
  simp at this
theorem line_all {xs : List Sup} (h : okLine xs = true) : ∀ r ∈ xs, okSup r = true := by
  intro r hr
  obtain ⟨i, hi⟩ := List.mem_iff_getElem?.1 hr
  simp only [okLine, Bool.and_eq_true] at h
  exact chain_each h.2.2.2 hi
/-- What a reading of words must do: it reads the words of good supports. -/
def Reads (f : ByteArray → Option Sup) : Prop := ∀ r, okSup r = true → f (supB r) = some r
theorem read_words {f : ByteArray → Option Sup} (hf : Reads f) {xs : List Sup} (h : okLine xs = true) : (splitS (textOf xs) 32).map f = xs.map some := by
  rw [words_text (line_ne h), List.map_map]
  exact List.map_congr_left fun r hr => hf r (line_all h r hr)
theorem line_inj {xs ys : List Sup} (hx : okLine xs = true) (hy : okLine ys = true) (h : textOf xs = textOf ys) : xs = ys := by
  have h1 := read_words (f := supI) (fun r hr => supI_of hr) hx
  have h2 := read_words (f := supI) (fun r hr => supI_of hr) hy
  rw [h, h2] at h1
  exact (List.map_inj_right fun a b hab => Option.some.inj hab).1 h1.symm
theorem plF_some {s : ByteArray} {xs : List Sup} (h : okLine xs = true) (e : textOf xs = s) : plF s = (xs, true) := by
  have hex : ∃ xs : List Sup, okLine xs = true ∧ textOf xs = s := ⟨xs, h, e⟩
  unfold plF
  rw [dif_pos hex]
  have hc := hex.choose_spec
  rw [line_inj hc.1 h (hc.2.trans e.symm)]
theorem plF_none {s : ByteArray} (h : ∀ xs : List Sup, okLine xs = true → textOf xs ≠ s) : plF s = ([], false) := by
  unfold plF
  rw [dif_neg]
  rintro ⟨xs, h0, e⟩
  exact h xs h0 e
/-- A word that cannot be read. -/
theorem plF_bad {f : ByteArray → Option Sup} (hf : Reads f) {s p : ByteArray} {k : Nat} (hp : (splitS s 32)[k]? = some p) (h : f p = none) : plF s = ([], false) :=
  plF_none fun xs h0 e => by
    have h1 := read_words hf h0
    rw [e] at h1
    have h2 := congrArg (·[k]?) h1
    simp only [List.getElem?_map, hp, Option.map_some, h] at h2
    cases hx : xs[k]? with
    | none => rw [hx] at h2; simp at h2
    | some r => rw [hx] at h2; simp at h2
/-- More words than a line has supports. -/
theorem plF_many {s : ByteArray} (h : 8 < (splitS s 32).length) : plF s = ([], false) :=
  plF_none fun xs h0 e => by
    have h1 := congrArg List.length (read_words (f := supI) (fun r hr => supI_of hr) h0)
    rw [e] at h1
    have := (line_ok h0).len
    simp at h1
    omega
/-- What was read is no line, or has another text. -/
theorem plF_other {f : ByteArray → Option Sup} (hf : Reads f) {s : ByteArray} {ys : List Sup} (hy : (splitS s 32).map f = ys.map some) (h : ¬ (okLine ys = true ∧ textOf ys = s)) : plF s = ([], false) :=
  plF_none fun xs h0 e => by
    have h1 := read_words hf h0
    rw [e, hy] at h1
    have e2 : ys = xs := (List.map_inj_right fun a b hab => Option.some.inj hab).1 h1
    subst e2
    exact h ⟨h0, e⟩
theorem dec4 {u : Nat} (h : u ≤ 3000) : (Lib.decDigits u).length ≤ 4 := by
  rw [Lib.decDigits_length]
  exact nDigits_le 3 u (by omega)
theorem num4 {m : Int} (h0 : 0 ≤ m) (h1 : m ≤ 3000) : (numB m).size ≤ 4 := by
  have hs : (numB m).size = (Lib.itoa m).length := by simp [numB, ByteArray.size]
  rw [hs]
  unfold Lib.itoa
  rw [if_neg (by omega)]
  exact dec4 (by omega)
theorem text_short {xs : List Sup} (hL : LineOk xs) : ∀ k, k ≤ xs.length → (textTo xs k).size ≤ 11 * k
  | 0, _ => by rw [text_zero]; decide
  | k + 1, hk => by
    have ih := text_short hL k (by omega)
    have hr : xs[k]? = some xs[k] := List.getElem?_eq_getElem (by omega)
    obtain ⟨⟨b1, b2⟩, b3, b4⟩ := hL.bd _ _ hr
    have s1 := num4 b1 b2
    have s2 := num4 b3 (by omega)
    rw [text_step hr, ByteArray.size_append, supB_size]
    split
    · omega
    · rw [ByteArray.size_append, one_size]
      omega
theorem plF_long {s : ByteArray} (h : 120 < s.size) : plF s = ([], false) :=
  plF_none fun xs h0 e => by
    have h1 := text_short (line_ok h0) xs.length (Nat.le_refl _)
    have h2 := (line_ok h0).len
    have e2 : textTo xs xs.length = textOf xs := by unfold textTo; rw [List.take_length]
    rw [e2, e] at h1
    omega
/-- The state on the way: the first k words are read. -/
def Got (f : ByteArray → Option Sup) (s : ByteArray) (k : Nat) (ys : List Sup) : Prop := ((splitS s 32).take k).map f = ys.map some
theorem Got.start (f : ByteArray → Option Sup) (s : ByteArray) : Got f s 0 [] := by simp [Got]
theorem Got.len {f : ByteArray → Option Sup} {s : ByteArray} {k : Nat} {ys : List Sup} (h : Got f s k ys) (hk : k ≤ (splitS s 32).length) : ys.length = k := by
  have := congrArg List.length h
  simp at this
  omega
theorem Got.step {f : ByteArray → Option Sup} {s p : ByteArray} {k : Nat} {ys : List Sup} {r : Sup} (h : Got f s k ys) (hp : (splitS s 32)[k]? = some p) (hr : f p = some r) : Got f s (k + 1) (ys ++ [r]) := by
  unfold Got at *
  rw [List.take_add_one, hp]
  simp [h, hr]
theorem Got.all {f : ByteArray → Option Sup} {s : ByteArray} {k : Nat} {ys : List Sup} (h : Got f s k ys) (hk : k = (splitS s 32).length) : (splitS s 32).map f = ys.map some := by
  subst hk
  unfold Got at h
  rwa [List.take_length] at h
end Go.Proofs.YteakffedlojcmaaDoor
