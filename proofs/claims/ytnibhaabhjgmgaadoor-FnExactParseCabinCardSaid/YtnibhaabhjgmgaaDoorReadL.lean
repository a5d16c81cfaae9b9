/- The number of a text: the plain side. -/
import Derived.Test.YtnibhaabhjgmgaaDoorNum
import Derived.Test.YtnibhaabhjgmgaaDoorSplitL
import Derived.Lib.AtoiAll
namespace Go.Proofs.YtnibhaabhjgmgaaDoor
open Go.RowKit
def valL (l : List UInt8) : Int := l.foldl (fun h c => 10 * h + ((c.toNat : Int) - 48)) 0
theorem valL_snoc (l : List UInt8) (c : UInt8) : valL (l ++ [c]) = 10 * valL l + ((c.toNat : Int) - 48) := by simp [valL]
theorem valL_bd : ∀ (k : Nat) (l : List UInt8), l.length = k → (∀ c ∈ l, 48 ≤ c.toNat ∧ c.toNat ≤ 57) → 0 ≤ valL l ∧ valL l < ((10 ^ k : Nat) : Int)
  | 0, l, hl, _ => by
    have : l = [] := List.eq_nil_of_length_eq_zero hl
    subst this
    simp [valL]
  | k + 1, l, hl, h => by
    have hne : l ≠ [] := fun e => by subst e; simp at hl
    obtain ⟨p, c, rfl⟩ : ∃ p c, l = p ++ [c] := ⟨l.dropLast, l.getLast hne, (List.dropLast_concat_getLast hne).symm⟩
    obtain ⟨b0, b1⟩ := valL_bd k p (by simpa using hl) (fun x hx => h x (by simp [hx]))
    obtain ⟨c0, c1⟩ := h c (by simp)
    rw [valL_snoc, Nat.pow_succ]
    omega
theorem parse_snoc : ∀ (l : List UInt8) (acc v : Nat) (c : UInt8), Lib.parseUint10 acc l = .ok v → 48 ≤ c.toNat → c.toNat ≤ 57 → v < 100000000000000000 → Lib.parseUint10 acc (l ++ [c]) = .ok (v * 10 + (c.toNat - 48))
  | [], acc, v, c, h, h0, h1, hv => by
    simp only [Lib.parseUint10, Lib.NumEnd.ok.injEq] at h
    subst h
    rw [List.nil_append, Lib.parseUint10, if_pos ⟨h0, h1⟩, if_neg (by omega), if_neg (by omega)]
    rfl
  | b :: l, acc, v, c, h, h0, h1, hv => by
    rw [Lib.parseUint10] at h
    rw [List.cons_append, Lib.parseUint10]
    split at h
    · rename_i hb
      rw [if_pos hb]
      split at h
      · cases h
      · rename_i hb1
        rw [if_neg hb1]
        split at h
        · cases h
        · rename_i hb2
          rw [if_neg hb2]
          exact parse_snoc l _ v c h h0 h1 hv
    · cases h
theorem dig_toNat {d : Nat} (h : d < 10) : (UInt8.ofNat (48 + d)).toNat = 48 + d := by
  rw [UInt8.toNat_ofNat']
  omega
structure DecOk (u : Nat) (l : List UInt8) : Prop where
  dig : ∀ c ∈ l, 48 ≤ c.toNat ∧ c.toNat ≤ 57
  val : valL l = u
  pos : 0 < l.length
  parse : u < 100000000000000000 → Lib.parseUint10 0 l = .ok u
theorem dec_ok (u : Nat) : DecOk u (Lib.decDigits u) := by
  induction u using Nat.strongRecOn with
  | _ u ih =>
    rw [Lib.decDigits]
    by_cases h : u < 10
    · rw [dif_pos h]
      have e := dig_toNat h
      refine ⟨fun c hc => ?_, ?_, by simp, fun _ => ?_⟩
      · simp only [List.mem_singleton] at hc
        subst hc
        omega
      · simp [valL]; omega
      · have := parse_snoc [] 0 0 (UInt8.ofNat (48 + u)) rfl (by omega) (by omega) (by omega)
        simp only [List.nil_append] at this
        rw [this, e]
        congr 1
        omega
    · rw [dif_neg h]
      obtain ⟨p1, p2, p3, p4⟩ := ih (u / 10) (by omega)
      have e := dig_toNat (d := u % 10) (by omega)
      refine ⟨fun c hc => ?_, ?_, by simp, fun hu => ?_⟩
      · rcases List.mem_append.1 hc with hc | hc
        · exact p1 c hc
        · simp only [List.mem_singleton] at hc
          subst hc
          omega
      · rw [valL_snoc, p2, e]
        omega
      · rw [parse_snoc _ 0 (u / 10) _ (p4 (by omega)) (by omega) (by omega) (by omega), e]
        congr 1
        omega
theorem nDigits_le : ∀ (k u : Nat), u < 10 ^ (k + 1) → Lib.nDigits u ≤ k + 1
  | 0, u, h => by rw [Lib.nDigits_small (by simpa using h)]; omega
  | k + 1, u, h => by
    by_cases h1 : u < 10
    · rw [Lib.nDigits_small h1]; omega
    · rw [Lib.nDigits_big h1]
      have := nDigits_le k (u / 10) (by rw [Nat.pow_succ] at h; omega)
      omega
theorem dec_len {u : Nat} (h : u ≤ 999999) : (Lib.decDigits u).length ≤ 6 := by
  rw [Lib.decDigits_length]
  exact nDigits_le 5 u (by omega)
/-- What is read behind the sign. -/
def isNeg (s : ByteArray) : Bool := decide (1 < s.size) && (s.data.toList[0]? == some 45)
def bodyL (s : ByteArray) : List UInt8 := if isNeg s then s.data.toList.drop 1 else s.data.toList
theorem numB_list (m : Int) : (numB m).data.toList = Lib.itoa m := by simp [numB]
theorem neg_num (m : Int) : isNeg (numB m) = decide (m < 0) := by
  have h0 := dec_ok m.natAbs
  have h1 := dec_ok m.toNat
  have hs : (numB m).size = (Lib.itoa m).length := by simp [numB, ByteArray.size]
  unfold isNeg
  rw [numB_list, hs]
  unfold Lib.itoa
  by_cases h : m < 0
  · rw [if_pos h]
    have := h0.pos
    simp [h]
    omega
  · rw [if_neg h]
    have hp := h1.pos
    cases e : Lib.decDigits m.toNat with
    | nil => rw [e] at hp; simp at hp
    | cons c r =>
      have hd := h1.dig c (by rw [e]; simp)
      have hc : c ≠ 45 := fun e => by subst e; simp at hd
      simp [h, hc]
theorem body_num (m : Int) : bodyL (numB m) = Lib.decDigits m.natAbs := by
  unfold bodyL
  rw [neg_num, numB_list]
  unfold Lib.itoa
  by_cases h : m < 0
  · simp [h]
  · have e : m.toNat = m.natAbs := by omega
    simp [h, e]
theorem atoi_num {m : Int} (h0 : -999999 ≤ m) (h1 : m ≤ 999999) : Lib.atoiAll (numB m).data.toList = .ok m := by
  rw [numB_list]
  unfold Lib.itoa
  have hp := (dec_ok m.natAbs).parse (by omega)
  have hpos := (dec_ok m.natAbs).pos
  have hmag : Lib.parseMag (Lib.decDigits m.natAbs) = .ok m.natAbs := by
    unfold Lib.parseMag
    rw [if_neg (fun e => by rw [e] at hpos; simp at hpos), hp]
  by_cases h : m < 0
  · rw [if_pos h]
    unfold Lib.atoiAll
    simp only [show (45 : UInt8).toNat = 45 from rfl, or_true, if_true, hmag]
    rw [if_neg (by simp), if_neg (by simp; omega)]
    simp
    omega
  · rw [if_neg h]
    have e : m.toNat = m.natAbs := by omega
    rw [e]
    cases ed : Lib.decDigits m.natAbs with
    | nil => rw [ed] at hpos; simp at hpos
    | cons c r =>
      have hd := (dec_ok m.natAbs).dig c (by rw [ed]; simp)
      have c1 : ¬ c.toNat = 43 := by omega
      have c2 : ¬ c.toNat = 45 := by omega
      rw [ed] at hmag
      unfold Lib.atoiAll
      simp only [c1, c2, or_false, if_false]
      rw [hmag]
      simp only []
      rw [if_neg (by simp; omega), if_neg (by simp)]
      simp
      omega
theorem num_inj {m n : Int} (h0 : -999999 ≤ m) (h1 : m ≤ 999999) (k0 : -999999 ≤ n) (k1 : n ≤ 999999) (h : numB m = numB n) : m = n := by
  have := atoi_num h0 h1
  rw [h, atoi_num k0 k1] at this
  simpa using this.symm
theorem num_size7 {m : Int} (h0 : -999999 ≤ m) (h1 : m ≤ 999999) : (numB m).size ≤ 7 := by
  have hs : (numB m).size = (Lib.itoa m).length := by simp [numB, ByteArray.size]
  rw [hs]
  unfold Lib.itoa
  split
  · have := dec_len (u := m.natAbs) (by omega)
    simp; omega
  · have := dec_len (u := m.toNat) (by omega)
    omega
open Classical in
/-- The number of a text, and whether there is one. -/
noncomputable def readF (s : ByteArray) : Int × Bool := if h : ∃ m : Int, (-999999 ≤ m ∧ m ≤ 999999) ∧ numB m = s then (h.choose, true) else (0, false)
theorem readF_some {s : ByteArray} {m : Int} (h0 : -999999 ≤ m) (h1 : m ≤ 999999) (h : numB m = s) : readF s = (m, true) := by
  have hex : ∃ m : Int, (-999999 ≤ m ∧ m ≤ 999999) ∧ numB m = s := ⟨m, ⟨h0, h1⟩, h⟩
  unfold readF
  rw [dif_pos hex]
  have hc := hex.choose_spec
  rw [num_inj hc.1.1 hc.1.2 h0 h1 (hc.2.trans h.symm)]
theorem readF_none {s : ByteArray} (h : ∀ m : Int, -999999 ≤ m → m ≤ 999999 → numB m ≠ s) : readF s = (0, false) := by
  unfold readF
  rw [dif_neg]
  rintro ⟨m, ⟨h0, h1⟩, e⟩
  exact h m h0 h1 e
theorem readF_bd (s : ByteArray) : -999999 ≤ (readF s).1 ∧ (readF s).1 ≤ 999999 := by
  by_cases hex : ∃ m : Int, (-999999 ≤ m ∧ m ≤ 999999) ∧ numB m = s
  · obtain ⟨m, ⟨h0, h1⟩, e⟩ := hex
    rw [readF_some h0 h1 e]
    exact ⟨h0, h1⟩
  · rw [readF_none fun m h0 h1 e => hex ⟨m, ⟨h0, h1⟩, e⟩]
    exact ⟨by omega, by omega⟩
/-- The library's answer, where it is none of ours. -/
theorem read_atoi_no {s : ByteArray} (h : ∀ v, Lib.atoiAll s.data.toList = .ok v → -999999 ≤ v → v ≤ 999999 → numB v ≠ s) : readF s = (0, false) :=
  readF_none fun m h0 h1 e => h m (by rw [← e]; exact atoi_num h0 h1) h0 h1 e
theorem read_long {s : ByteArray} (h : 7 < s.size) : readF s = (0, false) :=
  readF_none fun m h0 h1 e => by
    have := num_size7 h0 h1
    rw [e] at this
    omega
/-- The reference's answer: the body must have one to six digits. -/
theorem read_len {s : ByteArray} (h : (bodyL s).length < 1 ∨ 6 < (bodyL s).length) : readF s = (0, false) :=
  readF_none fun m h0 h1 e => by
    rw [← e, body_num] at h
    have := dec_len (u := m.natAbs) (by omega)
    have := (dec_ok m.natAbs).pos
    omega
theorem read_dig {s : ByteArray} {c : UInt8} (hc : c ∈ bodyL s) (h : ¬ (48 ≤ c.toNat ∧ c.toNat ≤ 57)) : readF s = (0, false) :=
  readF_none fun m h0 h1 e => by
    rw [← e, body_num] at hc
    exact h ((dec_ok m.natAbs).dig c hc)
theorem read_num {s : ByteArray} (h : numB (if isNeg s then -valL (bodyL s) else valL (bodyL s)) ≠ s) : readF s = (0, false) :=
  readF_none fun m h0 h1 e => by
    apply h
    have h2 := neg_num m
    rw [e] at h2
    have h3 := body_num m
    rw [e] at h3
    rw [h2, h3, (dec_ok m.natAbs).val]
    by_cases hm : m < 0
    · rw [if_pos (by simpa using hm)]
      have : -((m.natAbs : Nat) : Int) = m := by omega
      rw [this, e]
    · rw [if_neg (by simpa using hm)]
      have : ((m.natAbs : Nat) : Int) = m := by omega
      rw [this, e]
end Go.Proofs.YtnibhaabhjgmgaaDoor
