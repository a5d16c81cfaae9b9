/- The checksum of a string. -/
import Derived.Test.YteakffedlojcmaaDoorRows
import Derived.Test.YteakffedlojcmaaDoorLib
namespace Go.Proofs.YteakffedlojcmaaDoor
open Go.RowKit
def ckStep (h : Int) (b : UInt8) : Int := (41 * h + (b.toNat : Int) + 1) % 999979
def ckOf (l : List UInt8) : Int := l.foldl ckStep 7
def ckTo (s : ByteArray) (k : Nat) : Int := ckOf (s.data.toList.take k)
theorem ckTo_succ {s : ByteArray} {k : Nat} (hk : k < s.size) : ckTo s (k + 1) = ckStep (ckTo s k) (s[k]) := by
  have hl : k < s.data.toList.length := by simpa using hk
  unfold ckTo ckOf
  rw [List.take_add_one, List.getElem?_eq_getElem hl, List.foldl_append]
  rfl
theorem ckTo_all (s : ByteArray) : ckTo s s.size = ckOf s.data.toList := by
  unfold ckTo
  rw [List.take_of_length_le (by simp)]
theorem ckStep_bd {h : Int} (b : UInt8) (h0 : 0 ≤ h) (h1 : h < 999979) : 0 ≤ ckStep h b ∧ ckStep h b < 999979 := by
  unfold ckStep
  omega
theorem i_sum_any (s : ByteArray) (w : World) (hs : s.size ≤ 4000) : Gv Tryd.prog 42 #[.string s] w (.int .i64 (ckOf s.data.toList)) := by
  unfold Gv
  go_enter Tryd.func42, Tryd.ntmps42
  go_wp2
  go_loopw [3, 7] (fun h i wr => ∃ (k : Nat) (c : Int), Below w.heap.size w wr ∧ k ≤ s.size ∧ i = .int .i64 (k : Int) ∧ h = .int .i64 c ∧ 0 ≤ c ∧ c < 999979 ∧ Hid (c = ckTo s k)) (fun _ i _ => s.size - (intOf i).toNat)
  case atStart => exact ⟨0, 7, Below.refl _ _, by omega, rfl, rfl, by omega, by omega, Lib.hid (by simp [ckTo, ckOf])⟩
  case round =>
    obtain ⟨k, c, hb, hk, rfl, rfl, c0, c1, hc⟩ := hrel
    obtain ⟨y, rfl⟩ := exists_later hb
    clear hb
    by_cases hlt : k < s.size
    · have hbyte : (s[k]).toNat < 256 := UInt8.toNat_lt _
      obtain ⟨d0, d1⟩ := ckStep_bd (s[k]) c0 c1
      go_wp2

      go_roundw
      case rel => exact ⟨k + 1, _, (by repeat (with_reducible first | exact Below.refl _ _ | refine bw_later ?_ _ | refine bw_alloc ?_ _ | refine bw_drew ?_ | refine bw_set ?_ (Nat.le_refl _) _ | refine bw_set ?_ ?_ _ | exact Nat.le_refl _ | exact later_size _ _ | refine Nat.le_trans ?_ (later_size _ _) | refine Nat.le_trans ?_ (size_alloc_le _ _) | refine Nat.le_trans ?_ (Nat.le_add_right _ _))), by omega, by go_num, rfl, d0, d1, Lib.hid (by rw [ckTo_succ hlt, ← hc.out]; rfl)⟩
      case measure => simp [intOf]; omega
    · obtain rfl : k = s.size := by omega
      go_wp2
      go_ret
      exact ⟨ret_int (by rw [hc.out, ckTo_all]), (by repeat (with_reducible first | exact Below.refl _ _ | refine bw_later ?_ _ | refine bw_alloc ?_ _ | refine bw_drew ?_ | refine bw_set ?_ (Nat.le_refl _) _ | refine bw_set ?_ ?_ _ | exact Nat.le_refl _ | exact later_size _ _ | refine Nat.le_trans ?_ (later_size _ _) | refine Nat.le_trans ?_ (size_alloc_le _ _) | refine Nat.le_trans ?_ (Nat.le_add_right _ _)))⟩
theorem s_sum_any (s : ByteArray) (w : World) (hs : s.size ≤ 4000) : Gv Tryd.prog 55 #[.string s] w (.int .i64 (ckOf s.data.toList)) := by
  unfold Gv
  go_enter Tryd.func55, Tryd.ntmps55
  go_wp2
  go_loopw [3, 4] (fun h i wr => ∃ (k : Nat) (c : Int), Below w.heap.size w wr ∧ k ≤ s.size ∧ i = .int .i64 (k : Int) ∧ h = .int .i64 c ∧ 0 ≤ c ∧ c < 999979 ∧ Hid (c = ckTo s k)) (fun _ i _ => s.size - (intOf i).toNat)
  case atStart => exact ⟨0, 7, Below.refl _ _, by omega, rfl, rfl, by omega, by omega, Lib.hid (by simp [ckTo, ckOf])⟩
  case round =>
    obtain ⟨k, c, hb, hk, rfl, rfl, c0, c1, hc⟩ := hrel
    obtain ⟨y, rfl⟩ := exists_later hb
    clear hb
    by_cases hlt : k < s.size
    · have hbyte : (s[k]).toNat < 256 := UInt8.toNat_lt _
      obtain ⟨d0, d1⟩ := ckStep_bd (s[k]) c0 c1
      go_wp2

      go_roundw
      case rel => exact ⟨k + 1, _, (by repeat (with_reducible first | exact Below.refl _ _ | refine bw_later ?_ _ | refine bw_alloc ?_ _ | refine bw_drew ?_ | refine bw_set ?_ (Nat.le_refl _) _ | refine bw_set ?_ ?_ _ | exact Nat.le_refl _ | exact later_size _ _ | refine Nat.le_trans ?_ (later_size _ _) | refine Nat.le_trans ?_ (size_alloc_le _ _) | refine Nat.le_trans ?_ (Nat.le_add_right _ _))), by omega, by go_num, rfl, d0, d1, Lib.hid (by rw [ckTo_succ hlt, ← hc.out]; rfl)⟩
      case measure => simp [intOf]; omega
    · obtain rfl : k = s.size := by omega
      go_wp2
      go_ret
      exact ⟨ret_int (by rw [hc.out, ckTo_all]), (by repeat (with_reducible first | exact Below.refl _ _ | refine bw_later ?_ _ | refine bw_alloc ?_ _ | refine bw_drew ?_ | refine bw_set ?_ (Nat.le_refl _) _ | refine bw_set ?_ ?_ _ | exact Nat.le_refl _ | exact later_size _ _ | refine Nat.le_trans ?_ (later_size _ _) | refine Nat.le_trans ?_ (size_alloc_le _ _) | refine Nat.le_trans ?_ (Nat.le_add_right _ _)))⟩
end Go.Proofs.YteakffedlojcmaaDoor
