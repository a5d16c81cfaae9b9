/- A line as text: the plain side, the reference. -/
import Derived.Test.YteakffedlojcmaaDoorLineFacts
import Derived.Test.YteakffedlojcmaaDoorItoa
import Derived.Test.YteakffedlojcmaaDoorSplitL
import Derived.Lib.Join
namespace Go.Proofs.YteakffedlojcmaaDoor
open Go.RowKit
def letB (st : Bool) : ByteArray := if st then ⟨#[83]⟩ else ⟨#[84]⟩
def supB (r : Sup) : ByteArray := letB r.st ++ numB r.at_ ++ ⟨#[58]⟩ ++ numB r.h
def supL (r : Sup) : List UInt8 := (supB r).data.toList
def textOf (xs : List Sup) : ByteArray := mkB (Lib.join (xs.map supL) [32])
def textTo (xs : List Sup) (k : Nat) : ByteArray := textOf (xs.take k)
theorem join_snoc (l : List (List UInt8)) (x sep : List UInt8) : Lib.join (l ++ [x]) sep = (if l = [] then x else Lib.join l sep ++ sep ++ x) := by
  cases l with
  | nil => simp [Lib.join_one]
  | cons y r =>
    rw [List.cons_append, Lib.join_cons, if_neg (by simp), Lib.join_cons]
    simp [Lib.joinTail]
theorem mkB_app (a b : List UInt8) : mkB (a ++ b) = mkB a ++ mkB b := by
  simp [mkB, ByteArray.ext_iff, ByteArray.data_append]
theorem text_step {xs : List Sup} {k : Nat} {r : Sup} (hr : xs[k]? = some r) : textTo xs (k + 1) = (if k = 0 then textTo xs k else textTo xs k ++ ⟨#[32]⟩) ++ supB r := by
  have hk : k < xs.length := (List.getElem?_eq_some_iff.1 hr).1
  unfold textTo textOf
  rw [List.take_add_one, hr]
  simp only [Option.toList_some, List.map_append, List.map_cons, List.map_nil]
  rw [join_snoc]
  by_cases h : k = 0
  · subst h
    simp only [List.take_zero, List.map_nil, if_true, Lib.join_nil]
    have e : (mkB [] : ByteArray) ++ supB r = supB r := by simp [mkB, ByteArray.ext_iff, ByteArray.data_append]
    rw [e]
    simp [supL, mkB_of]
  · have hne : ¬ ((xs.take k).map supL = []) := fun e => by
      have := congrArg List.length e
      simp only [List.length_map, List.length_take, List.length_nil] at this
      omega
    rw [if_neg hne, if_neg h, mkB_app, mkB_app]
    have e1 : mkB (supL r) = supB r := by simp [supL, mkB_of]
    rw [e1]
    rfl
theorem text_zero (xs : List Sup) : textTo xs 0 = ⟨#[]⟩ := rfl
theorem one_size (c : UInt8) : (⟨#[c]⟩ : ByteArray).size = 1 := rfl
theorem letB_size (b : Bool) : (letB b).size = 1 := by cases b <;> rfl
theorem supB_size (r : Sup) : (supB r).size = 1 + (numB r.at_).size + 1 + (numB r.h).size := by
  unfold supB
  rw [ByteArray.size_append, ByteArray.size_append, ByteArray.size_append, letB_size]
  rfl
theorem app_assoc (a b c : ByteArray) : a ++ b ++ c = a ++ (b ++ c) := by
  simp [ByteArray.ext_iff, ByteArray.data_append]
theorem nil_app (a : ByteArray) : (⟨#[]⟩ : ByteArray) ++ a = a := by simp [ByteArray.ext_iff, ByteArray.data_append]
set_option maxHeartbeats 4000000 in
set_option maxRecDepth 20000 in
theorem l2Text_any (g off n c : Nat) (xs : List Sup) (w : World) (hs : SSup w g off n xs) (hL0 : LineOk xs) : Gv Tryd.prog 47 #[.slice (some ⟨g, off, none⟩) n c] w (.string (textOf xs)) := by
  unfold Gv
  have hl := Lib.hid hs.2.1
  have hg := hs.1
  have hL := Lib.hid hL0
  have h28 := hL0.len
  rw [hs.2.1] at h28
  clear hL0
  go_enter Tryd.func47, Tryd.ntmps47
  go_wp2
  go_loopw [3, 4] (fun t i wr => ∃ (k : Nat) (T : ByteArray), Below w.heap.size w wr ∧ k ≤ n ∧ i = .int .i64 (k : Int) ∧ t = .string T ∧ T.size ≤ 50 * k ∧ Hid (T = textTo xs k)) (fun _ i _ => n - (intOf i).toNat)
  case atStart => exact ⟨0, _, (by repeat (with_reducible first | exact hbD | exact Below.refl _ _ | refine bw_later ?_ _ | refine bw_alloc ?_ _ | refine bw_drew ?_ | refine bw_set ?_ (Nat.le_refl _) _ | refine bw_set ?_ ?_ _ | exact Nat.le_refl _ | exact later_size _ _ | refine Nat.le_trans ?_ (later_size _ _) | refine Nat.le_trans ?_ (size_alloc_le _ _) | refine Nat.le_trans ?_ (Nat.le_add_right _ _))), by omega, rfl, rfl, by decide, Lib.hid rfl⟩
  case round =>
    obtain ⟨k, T, hbw, hk, rfl, rfl, hz, hT⟩ := hrel
    obtain ⟨y, rfl⟩ := exists_later hbw
    clear hbw
    have hgy := lt_later _ y g hg
    by_cases hlt : k < n
    · obtain ⟨r, hr0⟩ := hs.at_ hlt
      obtain ⟨c0, c1, c2⟩ := hs.2.2 k r hr0
      obtain ⟨⟨b1, b2⟩, b3, b4⟩ := hL.out.bd _ _ hr0
      have hr := Lib.hid hr0
      clear hr0
      obtain ⟨ra, rh, rs⟩ := r
      simp only at c0 c1 c2 b1 b2 b3 b4
      have s1 := numB_size (n := ra) (by omega) (by omega)
      have s2 := numB_size (n := rh) (by omega) (by omega)
      have hc : Hid (∀ n : Int, (n = ra ∨ n = rh) → ∀ w, Gv Tryd.prog 33 #[.int .i64 n] w (.string (numB n))) := Lib.hid fun n hn w => num_any n (by omega) (by omega) w
      cases k with
      | zero =>
        simp only [Nat.zero_mul, Nat.add_zero] at c0 c1 c2
        cases rs
        · have hfin := Lib.hid (show textTo xs (0 + 1) = T ++ ⟨#[84]⟩ ++ numB ra ++ ⟨#[58]⟩ ++ numB rh by
            rw [text_step hr.out, ← hT.out]
            simp only [supB, letB, app_assoc, if_true, Bool.false_eq_true, if_false])
          have z1 : ¬ 9223372036854775807 < T.size + 1 := by omega
          have z2 : ¬ 9223372036854775807 < T.size + 1 := by omega
          have z3 : ¬ 9223372036854775807 < T.size + 1 + (numB ra).size := by omega
          have z4 : ¬ 9223372036854775807 < T.size + 1 + (numB ra).size + 1 := by omega
          have z5 : ¬ 9223372036854775807 < T.size + 1 + (numB ra).size + 1 + (numB rh).size := by omega
          go_wp2_with ((with_reducible refine wp_region_later (by kernel_rfl) (by kernel_rfl) ?_); (repeat (go_big_quiet_step ((first | (go_at_call 33; exact (hc.out _ (by first | exact .inl rfl | exact .inr rfl) _).quiet) | fail)))); refine wpQuiet_nil ?_; rintro _ ⟨xr, rfl⟩)
          go_roundw
          case rel => exact ⟨0 + 1, _, (by repeat (with_reducible first | exact hbD | exact Below.refl _ _ | refine bw_later ?_ _ | refine bw_alloc ?_ _ | refine bw_drew ?_ | refine bw_set ?_ (Nat.le_refl _) _ | refine bw_set ?_ ?_ _ | exact Nat.le_refl _ | exact later_size _ _ | refine Nat.le_trans ?_ (later_size _ _) | refine Nat.le_trans ?_ (size_alloc_le _ _) | refine Nat.le_trans ?_ (Nat.le_add_right _ _))), by omega, by go_num, rfl, by simp only [ByteArray.size_append, one_size]; omega, Lib.hid hfin.out.symm⟩
          case measure => simp [intOf]; omega
        · have hfin := Lib.hid (show textTo xs (0 + 1) = T ++ ⟨#[83]⟩ ++ numB ra ++ ⟨#[58]⟩ ++ numB rh by
            rw [text_step hr.out, ← hT.out]
            simp only [supB, letB, app_assoc, if_true])
          have z1 : ¬ 9223372036854775807 < T.size + 1 := by omega
          have z2 : ¬ 9223372036854775807 < T.size + 1 := by omega
          have z3 : ¬ 9223372036854775807 < T.size + 1 + (numB ra).size := by omega
          have z4 : ¬ 9223372036854775807 < T.size + 1 + (numB ra).size + 1 := by omega
          have z5 : ¬ 9223372036854775807 < T.size + 1 + (numB ra).size + 1 + (numB rh).size := by omega
          go_wp2_with ((with_reducible refine wp_region_later (by kernel_rfl) (by kernel_rfl) ?_); (repeat (go_big_quiet_step ((first | (go_at_call 33; exact (hc.out _ (by first | exact .inl rfl | exact .inr rfl) _).quiet) | fail)))); refine wpQuiet_nil ?_; rintro _ ⟨xr, rfl⟩)
          go_roundw
          case rel => exact ⟨0 + 1, _, (by repeat (with_reducible first | exact hbD | exact Below.refl _ _ | refine bw_later ?_ _ | refine bw_alloc ?_ _ | refine bw_drew ?_ | refine bw_set ?_ (Nat.le_refl _) _ | refine bw_set ?_ ?_ _ | exact Nat.le_refl _ | exact later_size _ _ | refine Nat.le_trans ?_ (later_size _ _) | refine Nat.le_trans ?_ (size_alloc_le _ _) | refine Nat.le_trans ?_ (Nat.le_add_right _ _))), by omega, by go_num, rfl, by simp only [ByteArray.size_append, one_size]; omega, Lib.hid hfin.out.symm⟩
          case measure => simp [intOf]; omega
      | succ j =>
        have i0 : decide ((0 : Int) < (j : Int) + 1) = true := by rw [decide_eq_true_iff]; omega
        have i1 : (0 : Int) ≤ (j : Int) + 1 := by omega
        have i2 : (j : Int) + 1 < (n : Int) := by omega
        cases rs
        · have hfin := Lib.hid (show textTo xs (j + 1 + 1) = T ++ ⟨#[32]⟩ ++ ⟨#[84]⟩ ++ numB ra ++ ⟨#[58]⟩ ++ numB rh by
            rw [text_step hr.out, ← hT.out]
            simp only [supB, letB, app_assoc, Bool.false_eq_true, if_false, Nat.add_one_ne_zero])
          have z1 : ¬ 9223372036854775807 < T.size + 1 := by omega
          have z2 : ¬ 9223372036854775807 < T.size + 1 + 1 := by omega
          have z3 : ¬ 9223372036854775807 < T.size + 1 + 1 + (numB ra).size := by omega
          have z4 : ¬ 9223372036854775807 < T.size + 1 + 1 + (numB ra).size + 1 := by omega
          have z5 : ¬ 9223372036854775807 < T.size + 1 + 1 + (numB ra).size + 1 + (numB rh).size := by omega
          go_wp2_with ((with_reducible refine wp_region_later (by kernel_rfl) (by kernel_rfl) ?_); (repeat (go_big_quiet_step ((first | (go_at_call 33; exact (hc.out _ (by first | exact .inl rfl | exact .inr rfl) _).quiet) | fail)))); refine wpQuiet_nil ?_; rintro _ ⟨xr, rfl⟩)
          go_roundw
          case rel => exact ⟨j + 1 + 1, _, (by repeat (with_reducible first | exact hbD | exact Below.refl _ _ | refine bw_later ?_ _ | refine bw_alloc ?_ _ | refine bw_drew ?_ | refine bw_set ?_ (Nat.le_refl _) _ | refine bw_set ?_ ?_ _ | exact Nat.le_refl _ | exact later_size _ _ | refine Nat.le_trans ?_ (later_size _ _) | refine Nat.le_trans ?_ (size_alloc_le _ _) | refine Nat.le_trans ?_ (Nat.le_add_right _ _))), by omega, by go_num, rfl, by simp only [ByteArray.size_append, one_size]; omega, Lib.hid hfin.out.symm⟩
          case measure => simp [intOf]; omega
        · have hfin := Lib.hid (show textTo xs (j + 1 + 1) = T ++ ⟨#[32]⟩ ++ ⟨#[83]⟩ ++ numB ra ++ ⟨#[58]⟩ ++ numB rh by
            rw [text_step hr.out, ← hT.out]
            simp only [supB, letB, app_assoc, if_true, if_false, Nat.add_one_ne_zero])
          have z1 : ¬ 9223372036854775807 < T.size + 1 := by omega
          have z2 : ¬ 9223372036854775807 < T.size + 1 + 1 := by omega
          have z3 : ¬ 9223372036854775807 < T.size + 1 + 1 + (numB ra).size := by omega
          have z4 : ¬ 9223372036854775807 < T.size + 1 + 1 + (numB ra).size + 1 := by omega
          have z5 : ¬ 9223372036854775807 < T.size + 1 + 1 + (numB ra).size + 1 + (numB rh).size := by omega
          go_wp2_with ((with_reducible refine wp_region_later (by kernel_rfl) (by kernel_rfl) ?_); (repeat (go_big_quiet_step ((first | (go_at_call 33; exact (hc.out _ (by first | exact .inl rfl | exact .inr rfl) _).quiet) | fail)))); refine wpQuiet_nil ?_; rintro _ ⟨xr, rfl⟩)
          go_roundw
          case rel => exact ⟨j + 1 + 1, _, (by repeat (with_reducible first | exact hbD | exact Below.refl _ _ | refine bw_later ?_ _ | refine bw_alloc ?_ _ | refine bw_drew ?_ | refine bw_set ?_ (Nat.le_refl _) _ | refine bw_set ?_ ?_ _ | exact Nat.le_refl _ | exact later_size _ _ | refine Nat.le_trans ?_ (later_size _ _) | refine Nat.le_trans ?_ (size_alloc_le _ _) | refine Nat.le_trans ?_ (Nat.le_add_right _ _))), by omega, by go_num, rfl, by simp only [ByteArray.size_append, one_size]; omega, Lib.hid hfin.out.symm⟩
          case measure => simp [intOf]; omega
    · obtain rfl : k = n := by omega
      go_wp2
      go_ret
      exact ⟨by rw [hT.out, textTo, ← hl.out, List.take_length]; rfl, (by repeat (with_reducible first | exact hbD | exact Below.refl _ _ | refine bw_later ?_ _ | refine bw_alloc ?_ _ | refine bw_drew ?_ | refine bw_set ?_ (Nat.le_refl _) _ | refine bw_set ?_ ?_ _ | exact Nat.le_refl _ | exact later_size _ _ | refine Nat.le_trans ?_ (later_size _ _) | refine Nat.le_trans ?_ (size_alloc_le _ _) | refine Nat.le_trans ?_ (Nat.le_add_right _ _)))⟩
end Go.Proofs.YteakffedlojcmaaDoor
