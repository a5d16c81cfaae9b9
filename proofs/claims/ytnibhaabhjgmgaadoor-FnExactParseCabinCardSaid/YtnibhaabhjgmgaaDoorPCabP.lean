/- The cabin with a text: the plain side. -/
import Derived.Test.YtnibhaabhjgmgaaDoorCabText
import Derived.Test.YtnibhaabhjgmgaaDoorReadL
import Derived.Lib.Split
import Derived.Lib.Strings
import Derived.Lib.SlicesS
import Derived.Lib.Join
namespace Go.Proofs.YtnibhaabhjgmgaaDoor
open Go.RowKit
theorem itoa_no (n : Int) (c : UInt8) (h : c.toNat < 45 ∨ 57 < c.toNat) : ∀ b ∈ Lib.itoa n, b ≠ c := by
  intro b hb e
  subst e
  unfold Lib.itoa at hb
  split at hb
  · rcases List.mem_cons.1 hb with rfl | hb
    · simp at h
    · have := (dec_ok n.natAbs).dig _ hb
      omega
  · have := (dec_ok n.toNat).dig _ hb
    omega
theorem itoa_pos (n : Int) : 0 < (Lib.itoa n).length := by
  unfold Lib.itoa
  split
  · simp
  · exact (dec_ok _).pos
theorem split_join (c : UInt8) : ∀ (ls : List (List UInt8)), ls ≠ [] → (∀ l ∈ ls, ∀ b ∈ l, b ≠ c) → splitL c (Lib.join ls [c]) = ls
  | [], h, _ => absurd rfl h
  | [l], _, h => by rw [Lib.join_one]; exact splitL_miss (h l (by simp))
  | l :: m :: r, _, h => by
    have ih := split_join c (m :: r) (by simp) (fun x hx => h x (by simp [hx]))
    have e : Lib.join (l :: m :: r) [c] = l ++ c :: Lib.join (m :: r) [c] := by
      rw [Lib.join_cons, Lib.join_cons]
      simp [Lib.joinTail]
    rw [e, splitL_hit l _ (h l (by simp)), ih]
-- two bytes between the pieces
theorem index2_miss {c d : UInt8} : ∀ {l : List UInt8}, (∀ b ∈ l, b ≠ c) → Lib.index l [c, d] = -1
  | [], _ => rfl
  | b :: l, h => by
    have hb : (c == b) = false := by simpa using fun e => h b (by simp) e.symm
    rw [Lib.index, index2_miss (fun x hx => h x (by simp [hx]))]
    simp [List.isPrefixOf, hb]
theorem index2_hit {c d : UInt8} : ∀ (p r : List UInt8), (∀ b ∈ p, b ≠ c) → Lib.index (p ++ c :: d :: r) [c, d] = (p.length : Int)
  | [], r, _ => by simp [Lib.index, List.isPrefixOf]
  | b :: p, r, h => by
    have hb : (c == b) = false := by simpa using fun e => h b (by simp) e.symm
    have ih := index2_hit (c := c) (d := d) p r (fun x hx => h x (by simp [hx]))
    have hm : (((p.length : Nat) : Int) == -1) = false := by rw [beq_eq_false_iff_ne]; omega
    rw [List.cons_append, Lib.index, ih, hm]
    simp [List.isPrefixOf, hb]
theorem split2 (c d : UInt8) : ∀ (ps : List (List UInt8)) (p : List UInt8), (∀ l ∈ p :: ps, ∀ b ∈ l, b ≠ c) → Lib.count (Lib.join (p :: ps) [c, d]) [c, d] = ps.length ∧ Lib.splitK [c, d] 0 ps.length (Lib.join (p :: ps) [c, d]) = p :: ps
  | [], p, h => by
    rw [Lib.join_one]
    exact ⟨Lib.count_miss (index2_miss (h p (by simp))), rfl⟩
  | q :: ps, p, h => by
    obtain ⟨e1, e2⟩ := split2 c d ps q (fun x hx => h x (by simp [hx]))
    have e : Lib.join (p :: q :: ps) [c, d] = p ++ c :: d :: Lib.join (q :: ps) [c, d] := by
      rw [Lib.join_cons, Lib.join_cons]
      simp [Lib.joinTail]
    have hi := index2_hit (c := c) (d := d) p (Lib.join (q :: ps) [c, d]) (h p (by simp))
    have e5 : (p ++ c :: d :: Lib.join (q :: ps) [c, d]).drop (p.length + [c, d].length) = Lib.join (q :: ps) [c, d] := by simp
    rw [e]
    refine ⟨?_, ?_⟩
    · rw [Lib.count_hit (by simp) hi, e5, e1]
      simp [Nat.add_comm]
    · have e3 : ((p.length : Nat) : Int).toNat = p.length := by omega
      have e4 : (p ++ c :: d :: Lib.join (q :: ps) [c, d]).take p.length = p := by simp
      rw [List.length_cons, Lib.splitK, if_neg (by rw [hi, beq_iff_eq]; omega), hi, e3, Nat.add_zero, e4, e5, e2]
theorem cut2 {c d : UInt8} (p r : List UInt8) (h : ∀ b ∈ p, b ≠ c) : Lib.cut (p ++ c :: d :: r) [c, d] = (p, r, true) := by
  unfold Lib.cut
  rw [index2_hit p r h, if_pos (by omega)]
  have e3 : ((p.length : Nat) : Int).toNat = p.length := by omega
  rw [e3]
  simp
/-- A text cut at two bytes, as the library does. -/
def sp2 (s : ByteArray) : List ByteArray := Lib.splitB ⟨#[44, 32]⟩ 0 (Lib.countB s ⟨#[44, 32]⟩) s
theorem sp2_join {ps : List (List UInt8)} {p : List UInt8} (h : ∀ l ∈ p :: ps, ∀ b ∈ l, b ≠ 44) : sp2 (mkB (Lib.join (p :: ps) [44, 32])) = (p :: ps).map mkB := by
  obtain ⟨e1, e2⟩ := split2 44 32 ps p h
  have e3 : Lib.countB (mkB (Lib.join (p :: ps) [44, 32])) ⟨#[44, 32]⟩ = Lib.count (Lib.join (p :: ps) [44, 32]) [44, 32] := by
    show Lib.count (mkB _).data.toList _ = _
    rw [mkB_data]
  have hd := Lib.splitB_data ⟨#[44, 32]⟩ 0 ps.length (mkB (Lib.join (p :: ps) [44, 32]))
  rw [mkB_data, show (⟨#[44, 32]⟩ : ByteArray).data.toList = [44, 32] from rfl, e2] at hd
  have h2 := congrArg (List.map mkB) hd
  rw [List.map_map] at h2
  have e4 : (mkB ∘ fun x : ByteArray => x.data.toList) = id := by funext x; simp [mkB]
  rw [e4, List.map_id] at h2
  unfold sp2
  rw [e3, e1, h2]
-- the pieces of a cabin's text
def cabinL : List UInt8 := [99, 97, 98, 105, 110, 32]
def seatsL : List UInt8 := [32, 115, 101, 97, 116, 115]
def kgL : List UInt8 := [32, 107, 103]
def tripsL : List UInt8 := [32, 116, 114, 105, 112, 115]
def stL (d : Int) : List UInt8 := (stB d).data.toList
theorem stB_mk (d : Int) : stB d = mkB (stL d) := by simp [stL, mkB_of]
def pcs (r : R5) : List (List UInt8) := [cabinL ++ Lib.itoa r.a ++ [58, 32] ++ Lib.itoa r.b ++ seatsL, Lib.itoa r.c ++ kgL, stL r.d, Lib.itoa r.e ++ tripsL]
theorem cabB_mk (r : R5) : cabB r = mkB (Lib.join (pcs r) [44, 32]) := by
  unfold cabB pcs
  rw [Lib.join_cons]
  simp [Lib.joinTail, mkB, numB, stL, cabinL, seatsL, kgL, tripsL, ByteArray.ext_iff, ByteArray.data_append]
theorem stL_no (d : Int) (c : UInt8) (h : c = 44 ∨ c = 58) : ∀ b ∈ stL d, b ≠ c := by
  unfold stL stB
  rcases h with rfl | rfl <;> (repeat (first | split | decide))
theorem app_no {a b : List UInt8} {c : UInt8} (ha : ∀ x ∈ a, x ≠ c) (hb : ∀ x ∈ b, x ≠ c) : ∀ x ∈ a ++ b, x ≠ c := fun x hx => by
  rcases List.mem_append.1 hx with h | h
  · exact ha x h
  · exact hb x h
theorem cab_split (r : R5) : sp2 (cabB r) = (pcs r).map mkB := by
  rw [cabB_mk]
  unfold pcs
  refine sp2_join fun l hl => ?_
  simp only [List.mem_cons, List.not_mem_nil, or_false] at hl
  rcases hl with rfl | rfl | rfl | rfl
  · exact app_no (app_no (app_no (app_no (by decide) (itoa_no _ _ (by decide))) (by decide)) (itoa_no _ _ (by decide))) (by decide)
  · exact app_no (itoa_no _ _ (by decide)) (by decide)
  · exact stL_no _ _ (.inl rfl)
  · exact app_no (itoa_no _ _ (by decide)) (by decide)
def nameL : List ByteArray := [stB 0, stB 1, stB 2, stB 3]
def headI (p : ByteArray) : ByteArray := mkB (Lib.cut p.data.toList [58, 32]).1
def seatI (p : ByteArray) : ByteArray := mkB (Lib.cut p.data.toList [58, 32]).2.1
def preI (s : ByteArray) (p : List UInt8) : ByteArray := mkB (Lib.trimPrefix s.data.toList p)
def sufI (s : ByteArray) (p : List UInt8) : ByteArray := mkB (Lib.trimSuffix s.data.toList p)
/-- The cabin that the program reads out of four pieces. -/
noncomputable def cabI (p q t u : ByteArray) : R5 := ⟨(readF (preI (headI p) cabinL)).1, (readF (sufI (seatI p) seatsL)).1, (readF (sufI q kgL)).1, Lib.idxOfS nameL t, (readF (sufI u tripsL)).1⟩
theorem trimPre (p l : List UInt8) : Lib.trimPrefix (p ++ l) p = l := by
  unfold Lib.trimPrefix Lib.hasPrefix
  rw [if_pos (by simp)]
  simp
theorem trimSuf (l p : List UInt8) : Lib.trimSuffix (l ++ p) p = l := by
  unfold Lib.trimSuffix Lib.hasSuffix
  rw [if_pos (by simp)]
  simp
theorem numB_mk (n : Int) : numB n = mkB (Lib.itoa n) := rfl
theorem read_mk {n : Int} (h0 : -999999 ≤ n) (h1 : n ≤ 999999) : readF (mkB (Lib.itoa n)) = (n, true) := readF_some h0 h1 rfl
theorem idx_name {d : Int} (h0 : 0 ≤ d) (h1 : d ≤ 3) : Lib.idxOfS nameL (stB d) = d := by
  have hd : d = 0 ∨ d = 1 ∨ d = 2 ∨ d = 3 := by omega
  rcases hd with rfl | rfl | rfl | rfl <;> decide
theorem cabI_of {r : R5} (h : isCabin r = true) : ∃ p q t u, sp2 (cabB r) = [p, q, t, u] ∧ cabI p q t u = r := by
  obtain ⟨⟨a1, a2⟩, ⟨b1, b2⟩, ⟨c1, c2⟩, ⟨d1, d2⟩, e1, e2⟩ := cabin_bd h
  refine ⟨_, _, _, _, by rw [cab_split]; rfl, ?_⟩
  have hc : Lib.cut (cabinL ++ Lib.itoa r.a ++ [58, 32] ++ Lib.itoa r.b ++ seatsL) [58, 32] = (cabinL ++ Lib.itoa r.a, Lib.itoa r.b ++ seatsL, true) := by
    have := cut2 (c := 58) (d := 32) (cabinL ++ Lib.itoa r.a) (Lib.itoa r.b ++ seatsL) (app_no (by decide) (itoa_no _ _ (by decide)))
    rw [← this]
    congr 1
    simp
  unfold cabI headI seatI preI sufI
  simp only [mkB_data, hc, trimPre, trimSuf]
  rw [read_mk (by omega) (by omega), read_mk (by omega) (by omega), read_mk (by omega) (by omega), read_mk (by omega) (by omega), ← stB_mk, idx_name d1 d2]
open Classical in
/-- The cabin with a text, and whether there is one. -/
noncomputable def pcF (s : ByteArray) : R5 × Bool := if h : ∃ r : R5, isCabin r = true ∧ cabB r = s then (h.choose, true) else (R5.zero, false)
theorem cab_inj {r q : R5} (hr : isCabin r = true) (hq : isCabin q = true) (h : cabB r = cabB q) : r = q := by
  obtain ⟨p, x, t, u, e1, e2⟩ := cabI_of hr
  obtain ⟨p', x', t', u', f1, f2⟩ := cabI_of hq
  rw [h, f1] at e1
  simp only [List.cons.injEq, and_true] at e1
  obtain ⟨rfl, rfl, rfl, rfl⟩ := e1
  exact e2.symm.trans f2
theorem pcF_some {s : ByteArray} {r : R5} (h : isCabin r = true) (e : cabB r = s) : pcF s = (r, true) := by
  have hex : ∃ r : R5, isCabin r = true ∧ cabB r = s := ⟨r, h, e⟩
  unfold pcF
  rw [dif_pos hex]
  have hc := hex.choose_spec
  rw [cab_inj hc.1 h (hc.2.trans e.symm)]
theorem pcF_none {s : ByteArray} (h : ∀ r : R5, isCabin r = true → cabB r ≠ s) : pcF s = (R5.zero, false) := by
  unfold pcF
  rw [dif_neg]
  rintro ⟨r, h0, e⟩
  exact h r h0 e
theorem pcF_four {s : ByteArray} (h : (sp2 s).length ≠ 4) : pcF s = (R5.zero, false) :=
  pcF_none fun r h0 e => by
    obtain ⟨_, _, _, _, e1, _⟩ := cabI_of h0
    rw [e] at e1
    rw [e1] at h
    exact h rfl
theorem pcF_other {s p q t u : ByteArray} (hs : sp2 s = [p, q, t, u]) (h : ¬ (isCabin (cabI p q t u) = true ∧ cabB (cabI p q t u) = s)) : pcF s = (R5.zero, false) :=
  pcF_none fun r h0 e => by
    obtain ⟨_, _, _, _, e1, e2⟩ := cabI_of h0
    rw [e, hs] at e1
    simp only [List.cons.injEq, and_true] at e1
    obtain ⟨rfl, rfl, rfl, rfl⟩ := e1
    rw [e2] at h
    exact h ⟨h0, e⟩
-- the reference: words between spaces
def wordsL (r : R5) : List (List UInt8) := [[99, 97, 98, 105, 110], Lib.itoa r.a ++ [58], Lib.itoa r.b, [115, 101, 97, 116, 115, 44], Lib.itoa r.c, [107, 103, 44]] ++ ((if r.d = 0 then [[114, 101, 97, 100, 121, 44]] else if r.d = 1 then [[111, 110], [108, 105, 110, 101, 44]] else if r.d = 2 then [[112, 97, 114, 107, 101, 100, 44]] else [[98, 114, 111, 107, 101, 110, 44]]) ++ [Lib.itoa r.e, [116, 114, 105, 112, 115]])
theorem cabB_words (r : R5) : cabB r = mkB (Lib.join (wordsL r) [32]) := by
  unfold cabB wordsL stB
  by_cases h0 : r.d = 0
  · simp [h0, Lib.join_cons, Lib.joinTail, mkB, numB, ByteArray.ext_iff, ByteArray.data_append]
  · by_cases h1 : r.d = 1
    · simp [h1, Lib.join_cons, Lib.joinTail, mkB, numB, ByteArray.ext_iff, ByteArray.data_append]
    · by_cases h2 : r.d = 2
      · simp [h2, Lib.join_cons, Lib.joinTail, mkB, numB, ByteArray.ext_iff, ByteArray.data_append]
      · simp [h0, h1, h2, Lib.join_cons, Lib.joinTail, mkB, numB, ByteArray.ext_iff, ByteArray.data_append]
theorem words_no (r : R5) : ∀ l ∈ wordsL r, ∀ b ∈ l, b ≠ 32 := by
  intro l hl
  unfold wordsL at hl
  have i := fun n : Int => itoa_no n 32 (by decide)
  simp only [List.mem_append, List.mem_cons, List.not_mem_nil, or_false] at hl
  rcases hl with (rfl | rfl | rfl | rfl | rfl | rfl) | hl | rfl | rfl
  · decide
  · exact app_no (i _) (by decide)
  · exact i _
  · decide
  · exact i _
  · decide
  · split at hl
    · simp only [List.mem_singleton] at hl; subst hl; decide
    · split at hl
      · simp only [List.mem_cons, List.not_mem_nil, or_false] at hl
        rcases hl with rfl | rfl <;> decide
      · split at hl
        · simp only [List.mem_singleton] at hl; subst hl; decide
        · simp only [List.mem_singleton] at hl; subst hl; decide
  · exact i _
  · decide
theorem cab_words (r : R5) : splitS (cabB r) 32 = (wordsL r).map mkB := by
  unfold splitS
  rw [cabB_words, mkB_data, split_join 32 _ (by simp [wordsL]) (words_no r)]
/-- The cabin that the reference reads out of words, in a state. -/
noncomputable def cabS (ws : List ByteArray) (d : Int) : R5 := ⟨(readF ((ws.getD 1 ⟨#[]⟩).extract 0 ((ws.getD 1 ⟨#[]⟩).size - 1))).1, (readF (ws.getD 2 ⟨#[]⟩)).1, (readF (ws.getD 4 ⟨#[]⟩)).1, d, (readF (ws.getD (ws.length - 2) ⟨#[]⟩)).1⟩
theorem cabS_of {r : R5} (h : isCabin r = true) : ((splitS (cabB r) 32).length = 9 ∨ (splitS (cabB r) 32).length = 10) ∧ 2 ≤ ((splitS (cabB r) 32).getD 1 ⟨#[]⟩).size ∧ cabS (splitS (cabB r) 32) r.d = r := by
  obtain ⟨⟨a1, a2⟩, ⟨b1, b2⟩, ⟨c1, c2⟩, ⟨d1, d2⟩, e1, e2⟩ := cabin_bd h
  have pa := itoa_pos r.a
  have e5 : (mkB (Lib.itoa r.a ++ [58])).extract 0 ((mkB (Lib.itoa r.a ++ [58])).size - 1) = mkB (Lib.itoa r.a) := by
    rw [extract_mk, mkB_data, mkB_size]
    simp
  have ra := read_mk (n := r.a) (by omega) (by omega)
  have rb := read_mk (n := r.b) (by omega) (by omega)
  have rc := read_mk (n := r.c) (by omega) (by omega)
  have re := read_mk (n := r.e) (by omega) (by omega)
  have hd : r.d = 0 ∨ r.d = 1 ∨ r.d = 2 ∨ r.d = 3 := by omega
  rw [cab_words]
  have hsz : 2 ≤ (mkB (Lib.itoa r.a ++ [58])).size := by rw [mkB_size]; simp; omega
  rcases hd with hd | hd | hd | hd
  all_goals
    have hw : wordsL r = wordsL { r with d := r.d } := rfl
    unfold wordsL cabS
    simp only [hd]
    refine ⟨by simp, by simpa using hsz, ?_⟩
    simp [e5, ra, rb, rc, re, ← hd]
theorem itoa_len {n : Int} (k : Nat) (h0 : 0 ≤ n) (h1 : n < ((10 ^ (k + 1) : Nat) : Int)) : (Lib.itoa n).length ≤ k + 1 := by
  unfold Lib.itoa
  rw [if_neg (by omega), Lib.decDigits_length]
  exact nDigits_le k n.toNat (by omega)
theorem cab_short {r : R5} (h : isCabin r = true) : (cabB r).size ≤ 60 := by
  obtain ⟨⟨a1, a2⟩, ⟨b1, b2⟩, ⟨c1, c2⟩, ⟨d1, d2⟩, e1, e2⟩ := cabin_bd h
  have ha := itoa_len 1 (n := r.a) (by omega) (by omega)
  have hb := itoa_len 1 (n := r.b) (by omega) (by omega)
  have hc := itoa_len 3 (n := r.c) (by omega) (by omega)
  have he := itoa_len 4 (n := r.e) (by omega) (by omega)
  have hst : (stL r.d).length ≤ 7 := by
    unfold stL stB
    (repeat (first | split | decide))
  rw [cabB_mk, mkB_size]
  unfold pcs
  rw [Lib.join_cons]
  simp [Lib.joinTail, cabinL, seatsL, kgL, tripsL]
  omega
theorem pcF_long {s : ByteArray} (h : 60 < s.size) : pcF s = (R5.zero, false) :=
  pcF_none fun r h0 e => by
    have := cab_short h0
    rw [e] at this
    omega
theorem pcF_words {s : ByteArray} (h : ¬ (((splitS s 32).length = 9 ∨ (splitS s 32).length = 10) ∧ 2 ≤ ((splitS s 32).getD 1 ⟨#[]⟩).size)) : pcF s = (R5.zero, false) :=
  pcF_none fun r h0 e => by
    obtain ⟨h1, h2, _⟩ := cabS_of h0
    rw [e] at h1 h2
    exact h ⟨h1, h2⟩
theorem pcF_states {s : ByteArray} (h : ∀ d : Int, 0 ≤ d → d ≤ 3 → ¬ (isCabin (cabS (splitS s 32) d) = true ∧ cabB (cabS (splitS s 32) d) = s)) : pcF s = (R5.zero, false) :=
  pcF_none fun r h0 e => by
    obtain ⟨_, _, h3⟩ := cabS_of h0
    obtain ⟨_, _, _, ⟨d1, d2⟩, _⟩ := cabin_bd h0
    rw [e] at h3
    exact h r.d d1 d2 (by rw [h3]; exact ⟨h0, e⟩)
end Go.Proofs.YtnibhaabhjgmgaaDoor
