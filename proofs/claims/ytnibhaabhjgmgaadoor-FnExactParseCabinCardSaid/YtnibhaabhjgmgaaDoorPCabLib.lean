/- What the functions of the library give to the reader of a cabin: a text cut at two bytes, a head and a tail taken off, the place of a name. -/
import Derived.Test.YtnibhaabhjgmgaaDoorPCabP
import Derived.Test.YtnibhaabhjgmgaaDoorSplit
import Derived.Test.YtnibhaabhjgmgaaDoorMaxLen
import Derived.Test.YtnibhaabhjgmgaaDoorShelfSplit
import Derived.Test.YtnibhaabhjgmgaaDoorShelfCut
import Derived.Test.YtnibhaabhjgmgaaDoorShelfTrim
namespace Go.Proofs.YtnibhaabhjgmgaaDoor
open Go.RowKit
theorem split_cnt (sep : List UInt8) (hs : sep ≠ []) : ∀ (n : Nat) (l : List UInt8), l.length ≤ n → (Lib.splitK sep 0 (Lib.count l sep) l).length = Lib.count l sep + 1 ∧ Lib.count l sep ≤ l.length
  | n, l, hn => by
    have hg := Lib.index_ge l sep
    by_cases hm : Lib.index l sep = -1
    · rw [Lib.count_miss hm]
      exact ⟨rfl, Nat.zero_le _⟩
    · have hr := Lib.index_room l sep (by omega)
      have hp : 0 < sep.length := List.length_pos_iff.2 hs
      obtain ⟨i, hi⟩ := Int.eq_ofNat_of_zero_le (show 0 ≤ Lib.index l sep by omega)
      have hi' : Lib.index l sep = (i : Int) := hi
      match n with
      | 0 => omega
      | n + 1 =>
        have hd : (l.drop (i + sep.length)).length ≤ n := by rw [List.length_drop]; omega
        obtain ⟨e1, e2⟩ := split_cnt sep hs n (l.drop (i + sep.length)) hd
        have hb : ¬ ((Lib.index l sep == -1) = true) := fun e => hm (beq_iff_eq.1 e)
        have et : (Lib.index l sep).toNat = i := by omega
        rw [Lib.count_hit hs hi', Nat.add_comm 1]
        refine ⟨?_, ?_⟩
        · rw [Lib.splitK, if_neg hb, et, List.length_cons, e1]
        · rw [List.length_drop] at e2; omega
theorem split_each (sep : List UInt8) : ∀ (k : Nat) (l : List UInt8), ∀ p ∈ Lib.splitK sep 0 k l, p.length ≤ l.length
  | 0, l, p, h => by
    simp only [Lib.splitK, List.mem_singleton] at h
    subst h
    exact Nat.le_refl _
  | k + 1, l, p, h => by
    rw [Lib.splitK] at h
    split at h
    · simp only [List.mem_singleton] at h
      subst h
      exact Nat.le_refl _
    · rcases List.mem_cons.1 h with rfl | h
      · simp; omega
      · have := split_each sep k _ p h
        rw [List.length_drop] at this
        omega
theorem sp2_data (s : ByteArray) : (sp2 s).map (·.data.toList) = Lib.splitK [44, 32] 0 (Lib.count s.data.toList [44, 32]) s.data.toList := Lib.splitB_data _ _ _ _
theorem sp2_len (s : ByteArray) : (sp2 s).length = Lib.countB s ⟨#[44, 32]⟩ + 1 ∧ (sp2 s).length ≤ s.size + 1 := by
  obtain ⟨e1, e2⟩ := split_cnt [44, 32] (by simp) _ s.data.toList (Nat.le_refl _)
  have h := congrArg List.length (sp2_data s)
  rw [List.length_map] at h
  have e3 : Lib.countB s ⟨#[44, 32]⟩ = Lib.count s.data.toList [44, 32] := rfl
  have e4 : s.data.toList.length = s.size := by simp
  rw [h, e3]
  omega
theorem sp2_each {s p : ByteArray} (h : p ∈ sp2 s) : p.size ≤ s.size := by
  have h1 : p.data.toList ∈ (sp2 s).map (·.data.toList) := List.mem_map.2 ⟨p, h, rfl⟩
  rw [sp2_data] at h1
  have h2 := split_each _ _ _ _ h1
  have e4 : s.data.toList.length = s.size := by simp
  have e5 : p.data.toList.length = p.size := by simp
  omega
theorem split2_any (s : ByteArray) (hs : s.size ≤ 1048576) (w : World) (hm : Mx w) : Calls Tryd.prog 17 #[.string s, .string ⟨#[44, 32]⟩] w (StrsB w (sp2 s)) := by
  obtain ⟨m, hm⟩ := hm
  obtain ⟨e2, e3⟩ := sp2_len s
  refine Calls.mono (Tryd.strings_Split s ⟨#[44, 32]⟩ m w (by omega) hm (by simp [ByteArray.size])) fun e w' ⟨he, hw⟩ => ?_
  rw [← e2] at he
  subst he hw
  refine ⟨w.heap.size, _, rfl, Nat.le_refl _, ?_, bw_alloc (Below.refl _ _) _⟩
  exact ⟨by simp, .inr ⟨w.heap.size, _, _, rfl, Nat.le_refl _, heap_alloc_new w _, Nat.le_refl _, by unfold maxLen; omega, by show (List.map Value.string (sp2 s)).toArray.size = _; simp, by rw [Nat.mul_one]; exact List.take_of_length_le (by show (List.map Value.string (sp2 s)).length ≤ _; simp)⟩⟩
theorem cut2_any (s : ByteArray) (hs : s.size ≤ 1048576) (w : World) (hm : Mx w) : Gv Tryd.prog 18 #[.string s, .string ⟨#[58, 32]⟩] w (.tuple #[.string (headI s), .string (seatI s), .bool (Lib.cut s.data.toList [58, 32]).2.2]) := by
  obtain ⟨m, hm⟩ := hm
  exact Calls.mono (Tryd.strings_Cut s ⟨#[58, 32]⟩ m w (by omega) hm) fun e w' ⟨he, n, hw⟩ => ⟨he, by subst hw; exact below_drewN (Below.refl _ _) n⟩
theorem seatI_size (s : ByteArray) : (seatI s).size ≤ s.size := by
  have e4 : s.data.toList.length = s.size := by simp
  unfold seatI
  rw [mkB_size]
  unfold Lib.cut
  split <;> simp
theorem pre_any (s : ByteArray) (w : World) : Calls Tryd.prog 21 #[.string s, .string ⟨#[99, 97, 98, 105, 110, 32]⟩] w fun e w' => e = .returned (.string (preI s cabinL)) ∧ w' = w :=
  Tryd.strings_TrimPrefix s ⟨#[99, 97, 98, 105, 110, 32]⟩ w
theorem seats_any (s : ByteArray) (hs : s.size ≤ 1048576) (w : World) : Calls Tryd.prog 22 #[.string s, .string ⟨#[32, 115, 101, 97, 116, 115]⟩] w fun e w' => e = .returned (.string (sufI s seatsL)) ∧ w' = w :=
  Tryd.strings_TrimSuffix s ⟨#[32, 115, 101, 97, 116, 115]⟩ w (by omega)
theorem kg_any (s : ByteArray) (hs : s.size ≤ 1048576) (w : World) : Calls Tryd.prog 22 #[.string s, .string ⟨#[32, 107, 103]⟩] w fun e w' => e = .returned (.string (sufI s kgL)) ∧ w' = w :=
  Tryd.strings_TrimSuffix s ⟨#[32, 107, 103]⟩ w (by omega)
theorem trips_any (s : ByteArray) (hs : s.size ≤ 1048576) (w : World) : Calls Tryd.prog 22 #[.string s, .string ⟨#[32, 116, 114, 105, 112, 115]⟩] w fun e w' => e = .returned (.string (sufI s tripsL)) ∧ w' = w :=
  Tryd.strings_TrimSuffix s ⟨#[32, 116, 114, 105, 112, 115]⟩ w (by omega)
theorem name_at {j : Nat} (h : j < 4) : nameL.getD j ByteArray.empty = stB (j : Int) := by
  match j, h with
  | 0, _ | 1, _ | 2, _ | 3, _ => rfl
theorem idx_hit {x : ByteArray} {k : Nat} (hk : k < 4) (h : stB (k : Int) = x) (hne : ∀ j : Nat, j < k → stB (j : Int) ≠ x) : Lib.idxOfS nameL x = (k : Int) := by
  have := Lib.idxFromS_hit x nameL k 0 hk (by rw [name_at hk]; exact h) (fun j hj => by rw [name_at (by omega)]; exact hne j hj)
  rw [Nat.zero_add] at this
  exact this
theorem idx_miss {x : ByteArray} (hne : ∀ j : Nat, j < 4 → stB (j : Int) ≠ x) : Lib.idxOfS nameL x = -1 :=
  Lib.idxFromS_miss x nameL 0 (fun j hj => by rw [name_at hj]; exact hne j hj)
theorem idx_any (x : ByteArray) (w : World) (hN : Nm w) : Calls Tryd.prog 19 #[.slice (some ⟨0, 0, none⟩) 4 4, .string x] w fun e w' => e = .returned (.int .i64 (Lib.idxOfS nameL x)) ∧ w' = w := by
  have HN := Lib.hid hN
  clear hN
  go_enter Tryd.func19, Tryd.ntmps19
  go_wp2
  go_loop [8] (fun i => ∃ k : Nat, k ≤ 4 ∧ i = .int .i64 (k : Int) ∧ Hid (∀ j : Nat, j < k → stB (j : Int) ≠ x)) (fun i => 4 - (intOf i).toNat)
  case atStart => exact ⟨0, by omega, rfl, Lib.hid fun j hj => absurd hj (by omega)⟩
  case round =>
    obtain ⟨k, hk, rfl, hx⟩ := hrel
    by_cases hlt : k < 4
    · have c0 := HN.out k hlt
      cases hq : (x.toList == (stB (k : Int)).toList)
      · have hx1 := Lib.hid (show ∀ j : Nat, j < k + 1 → stB (j : Int) ≠ x from fun j hj => by
          rcases Nat.lt_or_ge j k with h | h
          · exact hx.out j h
          · obtain rfl : j = k := by omega
            rw [str_eq] at hq
            simp at hq
            exact fun e => hq e.symm)
        go_wp2
        go_round
        case rel => exact ⟨k + 1, by omega, by go_num, hx1⟩
        case measure => simp [intOf]; omega
      · have hfin := Lib.hid (idx_hit hlt (by rw [str_eq] at hq; simp at hq; exact hq.symm) hx.out)
        go_wp2
        go_ret
        exact ⟨by rw [hfin.out]; rfl, rfl⟩
    · obtain rfl : k = 4 := by omega
      have hfin := Lib.hid (idx_miss hx.out)
      go_wp2
      go_ret
      exact ⟨by rw [hfin.out]; rfl, rfl⟩
end Go.Proofs.YtnibhaabhjgmgaaDoor
