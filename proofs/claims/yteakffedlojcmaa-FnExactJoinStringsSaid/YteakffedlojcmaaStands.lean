/- Whether a byte stands in a text. -/
import Derived.Test.YteakffedlojcmaaRows
import Derived.Test.YteakffedlojcmaaLib
import Derived.Lib.Bytealg
namespace Go.Proofs.Yteakffedlojcmaa
open Go.RowKit
def hasB (s : ByteArray) (c : UInt8) : Bool := s.data.toList.contains c
theorem hasB_index (s : ByteArray) (c : UInt8) : decide (0 ≤ Lib.indexByte s.data.toList c) = hasB s c := by
  unfold hasB
  generalize s.data.toList = l
  induction l with
  | nil => rfl
  | cons b l ih =>
    unfold Lib.indexByte
    rw [List.contains_cons, ← ih]
    have hg := Lib.indexByte_ge l c
    by_cases hb : b = c
    · subst hb; simp
    · have h1 : (b == c) = false := by simpa using hb
      have h2 : (c == b) = false := by simpa using fun e => hb e.symm
      rw [h1, h2]
      by_cases h3 : Lib.indexByte l c = -1
      · simp [h3]
      · have h4 : (Lib.indexByte l c == -1) = false := by simpa using h3
        simp only [h4, Bool.false_eq_true, if_false, Bool.false_or]
        rw [decide_eq_decide]
        omega
theorem hasB_yes {s : ByteArray} {c : UInt8} {k : Nat} (hk : k < s.size) (h : s[k] = c) : hasB s c = true := by
  unfold hasB
  rw [List.contains_iff_mem]
  subst h
  exact List.getElem_mem (l := s.data.toList) (by simpa using hk)
theorem hasB_no {s : ByteArray} {c : UInt8} (h : ∀ k (hk : k < s.size), s[k] ≠ c) : hasB s c = false := by
  unfold hasB
  rw [Bool.eq_false_iff, ne_eq, List.contains_iff_mem]
  intro hm
  obtain ⟨k, hk, e⟩ := List.getElem_of_mem hm
  exact h k (by simpa using hk) e
theorem stands_any (s : ByteArray) (c : UInt8) (ci : Int) (hci : ci = (c.toNat : Int)) (hs : s.size ≤ 1048576) (w : World) : Gv Try.prog 18 #[.string s, .int .u8 ci] w (.bool (hasB s c)) := by
  unfold Gv
  go_enter Try.func18, Try.ntmps18
  go_wp2
  go_loopw [5] (fun i wr => ∃ k : Nat, Below w.heap.size w wr ∧ k ≤ s.size ∧ i = .int .i64 (k : Int) ∧ Hid (∀ j (hj : j < s.size), j < k → s[j] ≠ c)) (fun i _ => s.size - (intOf i).toNat)
  case atStart => exact ⟨0, Below.refl _ _, by omega, rfl, Lib.hid fun j _ h => absurd h (by omega)⟩
  case round =>
    obtain ⟨k, hb, hk, rfl, ha⟩ := hrel
    obtain ⟨y, rfl⟩ := exists_later hb
    clear hb
    by_cases hlt : k < s.size
    · have hbyte : (s[k]).toNat < 256 := UInt8.toNat_lt _
      by_cases hq : s[k] = c
      · have e : (((s[k]).toNat : Int) == ci) = true := by simp [hci, hq]
        have hQ := Lib.hid hq
        clear hq
        go_wp2
        go_ret
        exact ⟨ret_bool (by rw [hasB_yes hlt hQ.out]), (by repeat (with_reducible first | exact Below.refl _ _ | refine bw_later ?_ _ | refine bw_alloc ?_ _ | refine bw_drew ?_ | refine bw_set ?_ (Nat.le_refl _) _ | refine bw_set ?_ ?_ _ | exact Nat.le_refl _ | exact later_size _ _ | refine Nat.le_trans ?_ (later_size _ _) | refine Nat.le_trans ?_ (size_alloc_le _ _) | refine Nat.le_trans ?_ (Nat.le_add_right _ _)))⟩
      · have e : (((s[k]).toNat : Int) == ci) = false := by
          have : (s[k]).toNat ≠ c.toNat := fun h => hq (UInt8.toNat_inj.1 h)
          simp [hci]; omega
        have hQ := Lib.hid hq
        clear hq
        go_wp2
        go_roundw
        case rel => exact ⟨k + 1, (by repeat (with_reducible first | exact Below.refl _ _ | refine bw_later ?_ _ | refine bw_alloc ?_ _ | refine bw_drew ?_ | refine bw_set ?_ (Nat.le_refl _) _ | refine bw_set ?_ ?_ _ | exact Nat.le_refl _ | exact later_size _ _ | refine Nat.le_trans ?_ (later_size _ _) | refine Nat.le_trans ?_ (size_alloc_le _ _) | refine Nat.le_trans ?_ (Nat.le_add_right _ _))), by omega, by go_num, Lib.hid fun j hj h => by
          rcases Nat.lt_or_ge j k with h' | h'
          · exact ha.out j hj h'
          · obtain rfl : j = k := by omega
            exact hQ.out⟩
        case measure => simp [intOf]; omega
    · obtain rfl : k = s.size := by omega
      go_wp2
      go_ret
      exact ⟨ret_bool (by rw [hasB_no fun j hj => ha.out j hj hj]), (by repeat (with_reducible first | exact Below.refl _ _ | refine bw_later ?_ _ | refine bw_alloc ?_ _ | refine bw_drew ?_ | refine bw_set ?_ (Nat.le_refl _) _ | refine bw_set ?_ ?_ _ | exact Nat.le_refl _ | exact later_size _ _ | refine Nat.le_trans ?_ (later_size _ _) | refine Nat.le_trans ?_ (size_alloc_le _ _) | refine Nat.le_trans ?_ (Nat.le_add_right _ _)))⟩
end Go.Proofs.Yteakffedlojcmaa
