/- The window with the most broken wires. -/
import Derived.Test.YtagplkdeallbmaaBroken
import Derived.WalkLawsBesides
namespace Go.Proofs.Ytagplkdeallbmaa
open Go.RowKit
/-- The best window among the first k damages, from a first guess m. -/
def worstTo (m l st : Int) (xs : List R3) : Nat → Int × Int
  | 0 => (0, m)
  | k + 1 => match xs[k]? with
    | some d => if (worstTo m l st xs k).2 < brokenTo d.a l st xs xs.length then (d.a, brokenTo d.a l st xs xs.length) else worstTo m l st xs k
    | none => worstTo m l st xs k
section
variable {m l st : Int} {xs : List R3} {k : Nat} {d : R3}
theorem worst_yes (hr : xs[k]? = some d) (h : (worstTo m l st xs k).2 < brokenTo d.a l st xs xs.length) : worstTo m l st xs (k + 1) = (d.a, brokenTo d.a l st xs xs.length) := by simp [worstTo, hr, h]
theorem worst_no (hr : xs[k]? = some d) (h : ¬ (worstTo m l st xs k).2 < brokenTo d.a l st xs xs.length) : worstTo m l st xs (k + 1) = worstTo m l st xs k := by simp [worstTo, hr, h]
end
theorem worst_bd {m l st : Int} {xs : List R3} (hx : Wires xs) (hm : -1 ≤ m) (h0 : m ≤ 0) (h15 : xs.length ≤ 15) (k : Nat) : -1 ≤ (worstTo m l st xs k).2 ∧ (worstTo m l st xs k).2 ≤ 600 ∧ 0 ≤ (worstTo m l st xs k).1 ∧ (worstTo m l st xs k).1 ≤ 3000 := by
  induction k with
  | zero => exact ⟨hm, by show m ≤ 600; omega, Int.le_refl _, by show (0 : Int) ≤ 3000; omega⟩
  | succ k ih =>
    cases hd : xs[k]? with
    | none => simpa [worstTo, hd] using ih
    | some d =>
      obtain ⟨-, h3, h4⟩ := hx k d hd
      have hb := broken_bd (f := d.a) (l := l) (st := st) hx xs.length
      by_cases h : (worstTo m l st xs k).2 < brokenTo d.a l st xs xs.length
      · rw [worst_yes hd h]
        exact ⟨by show -1 ≤ brokenTo d.a l st xs xs.length; omega, by show brokenTo d.a l st xs xs.length ≤ 600; omega, h3, h4⟩
      · rw [worst_no hd h]
        exact ih
/-- The program's first guess is -1, the reference's 0: the greatest number is one. -/
theorem worst_most {l st : Int} {xs : List R3} (hx : Wires xs) (k : Nat) : max (worstTo (-1) l st xs k).2 0 = (worstTo 0 l st xs k).2 ∧ (0 < k → k ≤ xs.length → (worstTo (-1) l st xs k).2 = (worstTo 0 l st xs k).2) := by
  induction k with
  | zero => exact ⟨rfl, fun h => absurd h (by omega)⟩
  | succ k ih =>
    cases hd : xs[k]? with
    | none => 
      refine ⟨by simpa [worstTo, hd] using ih.1, fun _ h => ?_⟩
      rw [List.getElem?_eq_none_iff] at hd
      omega
    | some d =>
      have hb := (broken_bd (f := d.a) (l := l) (st := st) hx xs.length).1
      have h0 : 0 ≤ (worstTo 0 l st xs k).2 := by rw [← ih.1]; omega
      have e := ih.1
      by_cases h : (worstTo (-1) l st xs k).2 < brokenTo d.a l st xs xs.length <;> by_cases h' : (worstTo 0 l st xs k).2 < brokenTo d.a l st xs xs.length
      · rw [worst_yes hd h, worst_yes hd h']
        exact ⟨by show max (brokenTo d.a l st xs xs.length) 0 = brokenTo d.a l st xs xs.length; omega, fun _ _ => rfl⟩
      · rw [worst_yes hd h, worst_no hd h']
        have : brokenTo d.a l st xs xs.length = (worstTo 0 l st xs k).2 := by omega
        exact ⟨by show max (brokenTo d.a l st xs xs.length) 0 = _; omega, fun _ _ => this⟩
      · omega
      · rw [worst_no hd h, worst_no hd h']
        exact ⟨e, fun _ _ => by omega⟩
set_option maxHeartbeats 1000000 in
theorem i_worst_any (g off n c : Nat) (xs : List R3) (l st : Int) (w : World) (hs : SR3 w g off n xs) (h15 : n ≤ 15) (hx0 : Wires xs) (l0 : 1 ≤ l) (l1 : l ≤ 3000) :
    Gv Try.prog 57 #[.slice (some ⟨g, off, none⟩) n c, .int .i64 l, .int .i64 st] w (.tuple #[.int .i64 (worstTo (-1) l st xs n).1, .int .i64 (worstTo 0 l st xs n).2]) := by
  unfold Gv
  have hl := Lib.hid hs.2.1
  have hg := hs.1
  have hx := Lib.hid hx0
  have hbd := Lib.hid (fun k => worst_bd (m := (-1)) (l := l) (st := st) hx0 (by omega) (by omega) (by rw [hs.2.1]; exact h15) k)
  clear hx0
  go_enter Try.func57, Try.ntmps57
  go_wp2
  go_loopw [8, 9, 15] (fun t s i wr => ∃ (k : Nat) (b q : Int), Below w.heap.size w wr ∧ k ≤ n ∧ i = .int .i64 (k : Int) ∧ t = .int .i64 b ∧ s = .int .i64 q ∧ -1 ≤ q ∧ q ≤ 600 ∧ Hid ((b, q) = worstTo (-1) l st xs k)) (fun _ _ i _ => n - (intOf i).toNat)
  case atStart => exact ⟨0, 0, (-1), Below.refl _ _, by omega, rfl, rfl, rfl, by omega, by omega, rfl⟩
  case round =>
    obtain ⟨k, b, q, hb, hk, rfl, rfl, rfl, q0, q1, hw⟩ := hrel
    obtain ⟨y, rfl⟩ := exists_later hb
    clear hb
    have hgy := lt_later _ y g hg
    by_cases hlt : k < n
    · obtain ⟨d, hr0⟩ := hs.at_ hlt
      obtain ⟨c0, c1, c2⟩ := hs.2.2 k d hr0
      obtain ⟨-, a0, a1⟩ := hx.out k d hr0
      have hob := broken_bd (f := d.a) (l := l) (st := st) hx.out n
      have hr := Lib.hid hr0
      clear hr0
      by_cases hcmp : q < brokenTo d.a l st xs n
      · have Hc := Lib.hid hcmp
        go_wp2_with (go_at_call 55; (first | refine (i_broken_any g off n c xs d.a l st _ ((hs.later y).alloc _) h15 hx.out a0 a1 l0 l1).onL ?_ | refine (i_broken_any g off n c xs d.a l st _ ((hs.later y).alloc _) h15 hx.out a0 a1 l0 l1).on ?_); intro xq)
        go_roundw
        case rel => exact ⟨k + 1, d.a, brokenTo d.a l st xs n, (by repeat (with_reducible first | exact Below.refl _ _ | refine bw_later ?_ _ | refine bw_alloc ?_ _ | refine bw_drew ?_ | refine bw_set ?_ (Nat.le_refl _) _ | refine bw_set ?_ ?_ _ | exact Nat.le_refl _ | exact later_size _ _ | refine Nat.le_trans ?_ (later_size _ _) | refine Nat.le_trans ?_ (size_alloc_le _ _) | refine Nat.le_trans ?_ (Nat.le_add_right _ _))), by omega, by go_num, rfl, rfl, by omega, by omega, by
          have h := Hc.out
          have e := hw.out
          rw [show q = (worstTo (-1) l st xs k).2 from by rw [← e], ← hl.out] at h
          exact (by rw [worst_yes hr.out h, hl.out] : (d.a, brokenTo d.a l st xs n) = worstTo (-1) l st xs (k + 1))⟩
        case measure => simp [intOf]; omega
      · have Hc := Lib.hid hcmp
        go_wp2_with (go_at_call 55; (first | refine (i_broken_any g off n c xs d.a l st _ ((hs.later y).alloc _) h15 hx.out a0 a1 l0 l1).onL ?_ | refine (i_broken_any g off n c xs d.a l st _ ((hs.later y).alloc _) h15 hx.out a0 a1 l0 l1).on ?_); intro xq)
        go_roundw
        case rel => exact ⟨k + 1, b, q, (by repeat (with_reducible first | exact Below.refl _ _ | refine bw_later ?_ _ | refine bw_alloc ?_ _ | refine bw_drew ?_ | refine bw_set ?_ (Nat.le_refl _) _ | refine bw_set ?_ ?_ _ | exact Nat.le_refl _ | exact later_size _ _ | refine Nat.le_trans ?_ (later_size _ _) | refine Nat.le_trans ?_ (size_alloc_le _ _) | refine Nat.le_trans ?_ (Nat.le_add_right _ _))), by omega, by go_num, rfl, rfl, by omega, by omega, by
          have h := Hc.out
          have e := hw.out
          rw [show q = (worstTo (-1) l st xs k).2 from by rw [← e], ← hl.out] at h
          exact e.trans (worst_no (m := (-1)) (l := l) (st := st) hr.out (by omega)).symm⟩
        case measure => simp [intOf]; omega
    · obtain rfl : k = n := by omega
      go_wp2
      all_goals
        go_ret2
        exact ⟨by
          have e := hw.out
          have hm := (worst_most (l := l) (st := st) hx.out k).1
          rw [← hm, ← e]
          simp; try omega, (by repeat (with_reducible first | exact Below.refl _ _ | refine bw_later ?_ _ | refine bw_alloc ?_ _ | refine bw_drew ?_ | refine bw_set ?_ (Nat.le_refl _) _ | refine bw_set ?_ ?_ _ | exact Nat.le_refl _ | exact later_size _ _ | refine Nat.le_trans ?_ (later_size _ _) | refine Nat.le_trans ?_ (size_alloc_le _ _) | refine Nat.le_trans ?_ (Nat.le_add_right _ _)))⟩
set_option maxHeartbeats 1000000 in
theorem s_worst_any (g off n c : Nat) (xs : List R3) (l st : Int) (w : World) (hs : SR3 w g off n xs) (h15 : n ≤ 15) (hx0 : Wires xs) (l0 : 1 ≤ l) (l1 : l ≤ 3000) :
    Gv Try.prog 56 #[.slice (some ⟨g, off, none⟩) n c, .int .i64 l, .int .i64 st] w (.tuple #[.int .i64 (worstTo 0 l st xs n).1, .int .i64 (worstTo 0 l st xs n).2]) := by
  unfold Gv
  have hl := Lib.hid hs.2.1
  have hg := hs.1
  have hx := Lib.hid hx0
  have hbd := Lib.hid (fun k => worst_bd (m := 0) (l := l) (st := st) hx0 (by omega) (by omega) (by rw [hs.2.1]; exact h15) k)
  clear hx0
  go_enter Try.func56, Try.ntmps56
  go_wp2
  go_loopw [8, 9, 10] (fun t s i wr => ∃ (k : Nat) (b q : Int), Below w.heap.size w wr ∧ k ≤ n ∧ i = .int .i64 (k : Int) ∧ t = .int .i64 b ∧ s = .int .i64 q ∧ -1 ≤ q ∧ q ≤ 600 ∧ Hid ((b, q) = worstTo 0 l st xs k)) (fun _ _ i _ => n - (intOf i).toNat)
  case atStart => exact ⟨0, 0, 0, Below.refl _ _, by omega, rfl, rfl, rfl, by omega, by omega, rfl⟩
  case round =>
    obtain ⟨k, b, q, hb, hk, rfl, rfl, rfl, q0, q1, hw⟩ := hrel
    obtain ⟨y, rfl⟩ := exists_later hb
    clear hb
    have hgy := lt_later _ y g hg
    by_cases hlt : k < n
    · obtain ⟨d, hr0⟩ := hs.at_ hlt
      obtain ⟨c0, c1, c2⟩ := hs.2.2 k d hr0
      obtain ⟨-, a0, a1⟩ := hx.out k d hr0
      have hob := broken_bd (f := d.a) (l := l) (st := st) hx.out n
      have hr := Lib.hid hr0
      clear hr0
      by_cases hcmp : q < brokenTo d.a l st xs n
      · have Hc := Lib.hid hcmp
        go_wp2_with (go_at_call 54; (first | refine (s_broken_any g off n c xs d.a l st _ (hs.later y) h15 hx.out a0 a1 l0 l1).onL ?_ | refine (s_broken_any g off n c xs d.a l st _ (hs.later y) h15 hx.out a0 a1 l0 l1).on ?_); intro xq)
        go_roundw
        case rel => exact ⟨k + 1, d.a, brokenTo d.a l st xs n, (by repeat (with_reducible first | exact Below.refl _ _ | refine bw_later ?_ _ | refine bw_alloc ?_ _ | refine bw_drew ?_ | refine bw_set ?_ (Nat.le_refl _) _ | refine bw_set ?_ ?_ _ | exact Nat.le_refl _ | exact later_size _ _ | refine Nat.le_trans ?_ (later_size _ _) | refine Nat.le_trans ?_ (size_alloc_le _ _) | refine Nat.le_trans ?_ (Nat.le_add_right _ _))), by omega, by go_num, rfl, rfl, by omega, by omega, by
          have h := Hc.out
          have e := hw.out
          rw [show q = (worstTo 0 l st xs k).2 from by rw [← e], ← hl.out] at h
          exact (by rw [worst_yes hr.out h, hl.out] : (d.a, brokenTo d.a l st xs n) = worstTo 0 l st xs (k + 1))⟩
        case measure => simp [intOf]; omega
      · have Hc := Lib.hid hcmp
        go_wp2_with (go_at_call 54; (first | refine (s_broken_any g off n c xs d.a l st _ (hs.later y) h15 hx.out a0 a1 l0 l1).onL ?_ | refine (s_broken_any g off n c xs d.a l st _ (hs.later y) h15 hx.out a0 a1 l0 l1).on ?_); intro xq)
        go_roundw
        case rel => exact ⟨k + 1, b, q, (by repeat (with_reducible first | exact Below.refl _ _ | refine bw_later ?_ _ | refine bw_alloc ?_ _ | refine bw_drew ?_ | refine bw_set ?_ (Nat.le_refl _) _ | refine bw_set ?_ ?_ _ | exact Nat.le_refl _ | exact later_size _ _ | refine Nat.le_trans ?_ (later_size _ _) | refine Nat.le_trans ?_ (size_alloc_le _ _) | refine Nat.le_trans ?_ (Nat.le_add_right _ _))), by omega, by go_num, rfl, rfl, by omega, by omega, by
          have h := Hc.out
          have e := hw.out
          rw [show q = (worstTo 0 l st xs k).2 from by rw [← e], ← hl.out] at h
          exact e.trans (worst_no (m := 0) (l := l) (st := st) hr.out (by omega)).symm⟩
        case measure => simp [intOf]; omega
    · obtain rfl : k = n := by omega
      go_wp2
      all_goals
        go_ret2
        exact ⟨by
          have e := hw.out
          skip
          rw [← e]
          rfl, (by repeat (with_reducible first | exact Below.refl _ _ | refine bw_later ?_ _ | refine bw_alloc ?_ _ | refine bw_drew ?_ | refine bw_set ?_ (Nat.le_refl _) _ | refine bw_set ?_ ?_ _ | exact Nat.le_refl _ | exact later_size _ _ | refine Nat.le_trans ?_ (later_size _ _) | refine Nat.le_trans ?_ (size_alloc_le _ _) | refine Nat.le_trans ?_ (Nat.le_add_right _ _)))⟩
end Go.Proofs.Ytagplkdeallbmaa
