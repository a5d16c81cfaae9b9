/- Slices of texts as arguments: opened, measured, copied. -/
import Derived.Test.YteakffedlojcmaaMarkT
import Derived.Test.YteakffedlojcmaaOpen
import Derived.SliceStrings
namespace Go.Proofs.Yteakffedlojcmaa
open Go.RowKit Go.WideShapes Go.ChangeShapes
section
variable {H : Type} {enc : TypeId × Value → H} {P : Program} {w : World} {base : Nat} {held : Bool}
theorem openS_str {r : Reach} {b0 : Nat} {t e : TypeId} {v : Value} {d : DataW H} {p : List MemPlace} (hst : P.underlying t = some (.slice e)) (he : P.underlying e = some .string) (_ : P.cellsOf e = 1) (hc : P.cellsOf e = 1)
    (hv : Value.okWide P w r b0 t v) (h : DataW.Trod enc P w base (fun _ => true) held t v d p) : ∃ (A : Option Addr) (n c : Nat) (xs : List ByteArray), v = .slice A n c ∧ AT w A n xs ∧ n ≤ 9223372036854775807 ∧ ∀ x ∈ xs, x.size ≤ maxLen := by
  obtain ⟨A, n, c, rfl⟩ := okWide_slice hst hv
  obtain ⟨fuel, hf⟩ := h
  rcases open_strings hst he hc hf with ⟨hcs, _⟩ | ⟨a, len, cap, ss, hcs, _, hl, hmx, hz, _, hcell, hsz⟩
  · simp only [Value.cells, List.cons.injEq, and_true, Value.slice.injEq] at hcs
    obtain ⟨rfl, rfl, rfl⟩ := hcs
    exact ⟨_, _, _, [], rfl, ⟨rfl, fun h => absurd h (by omega)⟩, by omega, by simp⟩
  · simp only [Value.cells, List.cons.injEq, and_true, Value.slice.injEq] at hcs
    obtain ⟨rfl, rfl, rfl⟩ := hcs
    simp only [if_true] at hz
    refine ⟨_, _, _, ss.take n, rfl, ⟨by simp; omega, fun hn => ?_⟩, by unfold maxLen at hmx; omega, fun x hx => hsz x (List.mem_of_mem_take hx)⟩
    have h0 := hcell 0 (by omega)
    have ha : a = ⟨a.block, a.off, none⟩ := by
      have e : a.add 0 = a := by unfold Addr.add; simp
      rw [e] at h0
      exact spot_none h0
    refine ⟨a.block, a.off, by rw [← ha], ?_, by simp; omega, fun i r hr => ?_⟩
    · have := World.block_lt_of_cell? w _ h0
      rw [ha, add_off] at this
      exact this
    · have hin : i < n := by
        have := (List.getElem?_eq_some_iff.1 hr).1
        simp at this
        omega
      have h1 := hcell i (by omega)
      rw [ha, add_off] at h1
      rw [h1]
      rw [List.getElem?_take, if_pos hin] at hr
      rw [List.getD_eq_getElem?_getD, hr]
      rfl
end
def sumL (xs : List ByteArray) (k : Nat) : Nat := ((xs.take k).map ByteArray.size).sum
theorem sumL_zero (xs : List ByteArray) : sumL xs 0 = 0 := rfl
theorem sumL_succ {xs : List ByteArray} {k : Nat} {r : ByteArray} (h : xs[k]? = some r) : sumL xs (k + 1) = sumL xs k + r.size := by
  simp [sumL, List.take_add_one, h]
theorem sumL_mono (xs : List ByteArray) {j k : Nat} (h : j ≤ k) : sumL xs j ≤ sumL xs k := by
  induction k with
  | zero =>
    obtain rfl : j = 0 := by omega
    exact Nat.le_refl _
  | succ k ih =>
    rcases Nat.lt_or_ge j (k + 1) with h1 | h1
    · have := ih (by omega)
      cases hk : xs[k]? with
      | none => 
        have e : sumL xs (k + 1) = sumL xs k := by simp [sumL, List.take_add_one, hk]
        omega
      | some r => rw [sumL_succ hk]; omega
    · obtain rfl : j = k + 1 := by omega
      exact Nat.le_refl _
theorem sumL_at {xs : List ByteArray} {k n : Nat} {r : ByteArray} (h : xs[k]? = some r) (hk : k < n) : r.size ≤ sumL xs n := by
  have := sumL_mono xs (show k + 1 ≤ n by omega)
  rw [sumL_succ h] at this
  omega
theorem szString_any (A : Option Addr) (n c : Nat) (xs : List ByteArray) (w : World) (ha : AT w A n xs) (hn : n ≤ 9223372036854775807) (hz : ∀ x ∈ xs, x.size ≤ maxLen) :
    Gv Try.prog 11 #[.slice A n c, .int .i64 1048576] w (.int .i64 (if n + sumL xs n ≤ 1048576 then 1048576 - (n : Int) - (sumL xs n : Int) else -1)) := by
  unfold Gv
  have hl := Lib.hid ha.1
  by_cases h1 : 1048576 < n
  · rw [if_neg (by omega)]
    have e1 : decide ((1048576 : Int) - (n : Int) < 0) = true := by simp; omega
    go_enter Try.func11, Try.ntmps11
    go_wp2
    go_ret
    exact ⟨rfl, (by repeat (with_reducible first | exact Below.refl _ _ | refine bw_later ?_ _ | refine bw_alloc ?_ _ | refine bw_drew ?_ | refine bw_set ?_ (Nat.le_refl _) _ | refine bw_set ?_ ?_ _ | exact Nat.le_refl _ | exact later_size _ _ | refine Nat.le_trans ?_ (later_size _ _) | refine Nat.le_trans ?_ (size_alloc_le _ _) | refine Nat.le_trans ?_ (Nat.le_add_right _ _)))⟩
  have Hz := Lib.hid hz
  clear hz
  have e1 : decide ((1048576 : Int) - (n : Int) < 0) = false := by simp; omega
  go_enter Try.func11, Try.ntmps11
  go_wp2
  clear e1
  go_loopw [1, 5] (fun s i wr => ∃ k : Nat, Below w.heap.size w wr ∧ k ≤ n ∧ i = .int .i64 (k : Int) ∧ s = .int .i64 (1048576 - (n : Int) - (sumL xs k : Int)) ∧ n + sumL xs k ≤ 1048576) (fun _ i _ => n - (intOf i).toNat)
  case atStart => exact ⟨0, (by repeat (with_reducible first | exact Below.refl _ _ | refine bw_later ?_ _ | refine bw_alloc ?_ _ | refine bw_drew ?_ | refine bw_set ?_ (Nat.le_refl _) _ | refine bw_set ?_ ?_ _ | exact Nat.le_refl _ | exact later_size _ _ | refine Nat.le_trans ?_ (later_size _ _) | refine Nat.le_trans ?_ (size_alloc_le _ _) | refine Nat.le_trans ?_ (Nat.le_add_right _ _))), by omega, rfl, by simp [sumL_zero], by rw [sumL_zero]; omega⟩
  case round =>
    obtain ⟨k, hb, hk, rfl, rfl, hs⟩ := hrel
    obtain ⟨y, rfl⟩ := exists_later hb
    clear hb
    by_cases hlt : k < n
    · obtain ⟨g, off, rfl, hST⟩ := ha.2 (by omega)
      obtain ⟨r, hr0⟩ := hST.at_ hlt
      have c0 := hST.2.2 k r hr0
      have hg := hST.1
      have hgy := lt_later _ y g hg
      have hrz := Hz.out r (List.mem_of_getElem? hr0)
      unfold maxLen at hrz
      have hsu := sumL_succ hr0
      by_cases hbig : n + sumL xs (k + 1) ≤ 1048576
      · have e2 : decide ((1048576 : Int) - (n : Int) - (sumL xs k : Int) - (r.size : Int) < 0) = false := by simp; omega
        clear hr0
        go_wp2
        go_roundw
        case rel => exact ⟨k + 1, (by repeat (with_reducible first | exact Below.refl _ _ | refine bw_later ?_ _ | refine bw_alloc ?_ _ | refine bw_drew ?_ | refine bw_set ?_ (Nat.le_refl _) _ | refine bw_set ?_ ?_ _ | exact Nat.le_refl _ | exact later_size _ _ | refine Nat.le_trans ?_ (later_size _ _) | refine Nat.le_trans ?_ (size_alloc_le _ _) | refine Nat.le_trans ?_ (Nat.le_add_right _ _))), by omega, by go_num, by congr 1; omega, by omega⟩
        case measure => simp [intOf]; omega
      · have e2 : decide ((1048576 : Int) - (n : Int) - (sumL xs k : Int) - (r.size : Int) < 0) = true := by simp; omega
        have hm := sumL_mono xs (show k + 1 ≤ n by omega)
        have hno : Hid (¬ n + sumL xs n ≤ 1048576) := Lib.hid (by omega)
        clear hr0
        go_wp2
        go_ret
        exact ⟨by first | rfl | rw [if_neg hno.out], (by repeat (with_reducible first | exact Below.refl _ _ | refine bw_later ?_ _ | refine bw_alloc ?_ _ | refine bw_drew ?_ | refine bw_set ?_ (Nat.le_refl _) _ | refine bw_set ?_ ?_ _ | exact Nat.le_refl _ | exact later_size _ _ | refine Nat.le_trans ?_ (later_size _ _) | refine Nat.le_trans ?_ (size_alloc_le _ _) | refine Nat.le_trans ?_ (Nat.le_add_right _ _)))⟩
    · obtain rfl : k = n := by omega
      have hyes : Hid (k + sumL xs k ≤ 1048576) := Lib.hid hs
      go_wp2
      go_ret
      exact ⟨by first | rfl | rw [if_pos hyes.out], (by repeat (with_reducible first | exact Below.refl _ _ | refine bw_later ?_ _ | refine bw_alloc ?_ _ | refine bw_drew ?_ | refine bw_set ?_ (Nat.le_refl _) _ | refine bw_set ?_ ?_ _ | exact Nat.le_refl _ | exact later_size _ _ | refine Nat.le_trans ?_ (later_size _ _) | refine Nat.le_trans ?_ (size_alloc_le _ _) | refine Nat.le_trans ?_ (Nat.le_add_right _ _)))⟩
theorem infoStrM : (Try.prog.info? 9).map (fun i => (i.zero, i.size, i.bytes)) = some (some (.string ⟨#[]⟩), 1, 16) := by kernel_rfl
theorem OT.made (w : World) (T n : Nat) : OT (w.alloc (.cells (madeCells #[.string ⟨#[]⟩] n) T)) w.heap.size (w.heap.size + 1) (some ⟨w.heap.size, 0, none⟩) n (List.replicate n ⟨#[]⟩) := by
  refine ⟨by simp, fun _ => ⟨_, _, _, rfl, Nat.le_refl _, by omega, heap_alloc_new w _, by rw [size_madeCells, Nat.mul_one]; exact Nat.le_refl _, fun i r hr => ?_⟩⟩
  have hi : i < n := by
    have := (List.getElem?_eq_some_iff.1 hr).1
    simpa using this
  have hr' : r = ⟨#[]⟩ := by
    rw [List.getElem?_replicate, if_pos hi] at hr
    exact (by simpa using hr : (⟨#[]⟩ : ByteArray) = r).symm
  subst hr'
  have := made_at #[.string ⟨#[]⟩] 1 n i 0 rfl (by omega) hi
  simpa using this
theorem toString_any (A : Option Addr) (n c : Nat) (xs : List ByteArray) (w : World) (ha : AT w A n xs) (hn : n ≤ 1048576) :
    Calls Try.prog 13 #[.slice A n c] w fun e w' => ∃ g, e = .returned (.slice (some ⟨g, 0, none⟩) n n) ∧ w.heap.size ≤ g ∧ OT w' g (g + 1) (some ⟨g, 0, none⟩) n xs ∧ Below w.heap.size w w' := by
  obtain ⟨i0, hi, hz0, hz1, hz2⟩ := info_parts infoStrM
  have hmk : ∀ W : World, (Instr.makeSlice 27 (.int .i64 (n : Int)) (.int .i64 (n : Int))).run Try.prog W = .ok (.slice (some ⟨W.heap.size, 0, none⟩) n n) (W.alloc (.cells (madeCells #[.string ⟨#[]⟩] n) 9)) := fun W => by
    have := run_make_rowN (P := Try.prog) 27 9 i0 _ Try.underlying27 hi hz0 .i64 .i64 n n (Nat.le_refl _) (by rw [hz2]; omega) (by omega) W
    rw [hz1, Nat.mul_one] at this
    exact this
  clear hi hz0 hz1 hz2
  have hl := Lib.hid ha.1
  go_enter Try.func13, Try.ntmps13
  go_wp2
  clear hmk
  go_loopw [4] (fun i wr => ∃ (k : Nat) (ys : List ByteArray), Below w.heap.size w wr ∧ k ≤ n ∧ i = .int .i64 (k : Int) ∧ OT wr w.heap.size (w.heap.size + 1) (some ⟨w.heap.size, 0, none⟩) n ys ∧ Hid (∀ j, j < k → ys[j]? = xs[j]?)) (fun i _ => n - (intOf i).toNat)
  case atStart => exact ⟨0, List.replicate n ⟨#[]⟩, (by repeat (with_reducible first | exact Below.refl _ _ | refine bw_later ?_ _ | refine bw_alloc ?_ _ | refine bw_drew ?_ | refine bw_set ?_ (Nat.le_refl _) _ | refine bw_set ?_ ?_ _ | exact Nat.le_refl _ | exact later_size _ _ | refine Nat.le_trans ?_ (later_size _ _) | refine Nat.le_trans ?_ (size_alloc_le _ _) | refine Nat.le_trans ?_ (Nat.le_add_right _ _))), by omega, rfl, OT.made w 9 n, fun j hj => absurd hj (by omega)⟩
  case round =>
    obtain ⟨k, ys, hb, hk, rfl, hB, hx⟩ := hrel
    by_cases hlt : k < n
    · obtain ⟨b, off, rfl, hs⟩ := ha.2 (by omega)
      obtain ⟨r, hr0⟩ := hs.at_ hlt
      have c0 := hs.2.2 k r hr0
      have hbl := hs.1
      have hr := Lib.hid hr0
      clear hr0
      obtain ⟨q, hq0⟩ := hB.at_ hlt
      have hq := Lib.hid hq0
      clear hq0
      have hkl : k < ys.length := by have := hB.1; omega
      obtain ⟨y, rfl⟩ := exists_later hb
      clear hb
      obtain ⟨gg, hgg, _, _, hsz, fz, hcc⟩ := hB.cells (by omega)
      simp only [Option.some.injEq, Addr.mk.injEq, and_true] at hgg
      subst hgg
      have d0 := hcc k q hq.out
      clear hcc
      go_wp2
      go_roundw
      case rel =>
        refine ⟨k + 1, _, (by repeat (with_reducible first | exact Below.refl _ _ | refine bw_later ?_ _ | refine bw_alloc ?_ _ | refine bw_drew ?_ | refine bw_set ?_ (Nat.le_refl _) _ | refine bw_set ?_ ?_ _ | exact Nat.le_refl _ | exact later_size _ _ | refine Nat.le_trans ?_ (later_size _ _) | refine Nat.le_trans ?_ (size_alloc_le _ _) | refine Nat.le_trans ?_ (Nat.le_add_right _ _))), by omega, by go_num, hB.store (k := k) hq.out r, fun j hj => ?_⟩
        rcases Nat.lt_or_ge j k with h | h
        · rw [List.getElem?_set, if_neg (by omega)]
          exact hx.out j h
        · obtain rfl : j = k := by omega
          rw [hr.out]
          simp [hkl]
      case measure => simp [intOf]; omega
    · obtain rfl : k = n := by omega
      go_wp2
      go_ret
      have hxs : ys = xs := List.ext_getElem? fun j => by
        rcases Nat.lt_or_ge j k with h | h
        · exact hx.out j h
        · rw [List.getElem?_eq_none (by have := hB.1; omega), List.getElem?_eq_none (by have := hl.out; omega)]
      subst hxs
      exact ⟨_, rfl, Nat.le_refl _, hB, hb⟩
end Go.Proofs.Yteakffedlojcmaa
