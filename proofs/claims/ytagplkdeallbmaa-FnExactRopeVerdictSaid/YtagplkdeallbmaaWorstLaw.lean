/- The laws on the worst window and on the strength that is left. -/
import Derived.Test.YtagplkdeallbmaaWorst
import Derived.Test.YtagplkdeallbmaaBrokenLaw
namespace Go.Proofs.Ytagplkdeallbmaa
open Go.RowKit
theorem broken_pos {f l st : Int} {xs : List R3} (hx : Wires xs) {i : Nat} {d : R3} (hd : xs[i]? = some d) (hh : hit f l st d = true) (k : Nat) (hk : i < k) : 1 ≤ brokenTo f l st xs k := by
  induction k with
  | zero => omega
  | succ k ih =>
    rcases Nat.lt_or_ge i k with h | h
    · have := ih h
      cases hq : xs[k]? with
      | none => simpa [brokenTo, hq] using this
      | some q =>
        have := (hx k q hq).1
        simp only [brokenTo, hq]
        split <;> omega
    · obtain rfl : i = k := by omega
      have h0 := (broken_bd (f := f) (l := l) (st := st) hx i).1
      have := (hx i d hd).1
      rw [broken_yes hd hh]
      omega
theorem worst_same {l : Int} {xs : List R3} (hx : Wires xs) (hl : 1 ≤ l) (k : Nat) (h0 : 0 < k) (hk : k ≤ xs.length) : worstTo (-1) l (-1) xs k = worstTo 0 l (-1) xs k := by
  induction k with
  | zero => omega
  | succ k ih =>
    have hd : xs[k]? = some (xs[k]'(by omega)) := List.getElem?_eq_getElem _
    rcases Nat.eq_zero_or_pos k with h | h
    · subst h
      have hp : 1 ≤ brokenTo (xs[0]'(by omega)).a l (-1) xs xs.length := broken_pos hx hd (by simp [hit, inB]; omega) _ (by omega)
      rw [worst_yes hd (by show (-1 : Int) < _; omega), worst_yes hd (by show (0 : Int) < _; omega)]
    · have e := ih h (by omega)
      by_cases h' : (worstTo 0 l (-1) xs k).2 < brokenTo (xs[k]'(by omega)).a l (-1) xs xs.length
      · rw [worst_yes hd h', worst_yes hd (by rw [e]; exact h')]
      · rw [worst_no hd h', worst_no hd (by rw [e]; exact h'), e]
def worstF (k : R5) (xs : List R3) (l : Int) : Int × Int × Bool := if okDam k xs && (decide (0 < xs.length) && inB l 1 3000) then ((worstTo 0 l (-1) xs xs.length).1, (worstTo 0 l (-1) xs xs.length).2, true) else (0, 0, false)
/-- What is left of a strength: t of all, times s. -/
def leftF (k : R5) (xs : List R3) : Int × Bool := if okDam k xs then (k.e * (if k.b * k.c - (worstTo 0 10 (-1) xs xs.length).2 < 0 then 0 else k.b * k.c - (worstTo 0 10 (-1) xs xs.length).2) / (k.b * k.c), true) else (0, false)
theorem i_WorstWindow_any (k : R5) (g off n c : Nat) (xs : List R3) (l : Int) (w : World) (hs : SR3 w g off n xs) (hn : n ≤ 1048576) : Gv Try.prog 33 #[k.v, .slice (some ⟨g, off, none⟩) n c, .int .i64 l] w (.tuple #[.int .i64 ((worstF k xs l)).1, .int .i64 (((worstF k xs l)).2).1, .bool (((worstF k xs l)).2).2]) := by
  unfold Gv
  cases h0 : okDam k xs
  · have hfin := Lib.hid (show worstF k xs l = (0, 0, false) by simp [worstF, *])
    unfold R5.v
    go_enter Try.func33, Try.ntmps33
    go_wp2_with (first | (go_at_call 28; (first | refine (impl_AreDamages_any k g off _ c xs _ (by first | exact hs | exact hs.later _ | exact hs.alloc _ | exact (hs.alloc _).later _ | exact (hs.later _).alloc _ | exact ((hs.later _).alloc _).later _ | exact ((hs.alloc _).later _).alloc _ | exact (hs.alloc _).alloc _ | exact ((hs.alloc _).alloc _).later _ | exact (((hs.alloc _).later _).alloc _).later _) hn).onL ?_ | refine (impl_AreDamages_any k g off _ c xs _ (by first | exact hs | exact hs.later _ | exact hs.alloc _ | exact (hs.alloc _).later _ | exact (hs.later _).alloc _ | exact ((hs.later _).alloc _).later _ | exact ((hs.alloc _).later _).alloc _ | exact (hs.alloc _).alloc _ | exact ((hs.alloc _).alloc _).later _ | exact (((hs.alloc _).later _).alloc _).later _) hn).on ?_); intro xq) | (go_at_call 44; (first | refine (within_any _ _ _ _).onL ?_ | refine (within_any _ _ _ _).on ?_); intro xq) | (go_at_call 57; (first | refine (i_worst_any g off _ c xs l (-1) _ (by first | exact hs | exact hs.later _ | exact hs.alloc _ | exact (hs.alloc _).later _ | exact (hs.later _).alloc _ | exact ((hs.later _).alloc _).later _ | exact ((hs.alloc _).later _).alloc _ | exact (hs.alloc _).alloc _ | exact ((hs.alloc _).alloc _).later _ | exact (((hs.alloc _).later _).alloc _).later _) h15 hx.out l0 l1).onL ?_ | refine (i_worst_any g off _ c xs l (-1) _ (by first | exact hs | exact hs.later _ | exact hs.alloc _ | exact (hs.alloc _).later _ | exact (hs.later _).alloc _ | exact ((hs.later _).alloc _).later _ | exact ((hs.alloc _).later _).alloc _ | exact (hs.alloc _).alloc _ | exact ((hs.alloc _).alloc _).later _ | exact (((hs.alloc _).later _).alloc _).later _) h15 hx.out l0 l1).on ?_); intro xq))
    go_ret3
    exact ⟨by rw [hfin.out]; rfl, (by repeat (with_reducible first | exact Below.refl _ _ | refine bw_later ?_ _ | refine bw_alloc ?_ _ | refine bw_drew ?_ | refine bw_set ?_ (Nat.le_refl _) _ | refine bw_set ?_ ?_ _ | exact Nat.le_refl _ | exact later_size _ _ | refine Nat.le_trans ?_ (later_size _ _) | refine Nat.le_trans ?_ (size_alloc_le _ _) | refine Nat.le_trans ?_ (Nat.le_add_right _ _)))⟩
  cases h2 : inB l 1 3000
  · rcases Nat.eq_zero_or_pos n with hz | hz
    · have hz' := hs.2.1
      subst hz
      have hfin := Lib.hid (show worstF k xs l = (0, 0, false) by simp [worstF, *])
      unfold R5.v
      go_enter Try.func33, Try.ntmps33
      go_wp2_with (first | (go_at_call 28; (first | refine (impl_AreDamages_any k g off _ c xs _ (by first | exact hs | exact hs.later _ | exact hs.alloc _ | exact (hs.alloc _).later _ | exact (hs.later _).alloc _ | exact ((hs.later _).alloc _).later _ | exact ((hs.alloc _).later _).alloc _ | exact (hs.alloc _).alloc _ | exact ((hs.alloc _).alloc _).later _ | exact (((hs.alloc _).later _).alloc _).later _) hn).onL ?_ | refine (impl_AreDamages_any k g off _ c xs _ (by first | exact hs | exact hs.later _ | exact hs.alloc _ | exact (hs.alloc _).later _ | exact (hs.later _).alloc _ | exact ((hs.later _).alloc _).later _ | exact ((hs.alloc _).later _).alloc _ | exact (hs.alloc _).alloc _ | exact ((hs.alloc _).alloc _).later _ | exact (((hs.alloc _).later _).alloc _).later _) hn).on ?_); intro xq) | (go_at_call 44; (first | refine (within_any _ _ _ _).onL ?_ | refine (within_any _ _ _ _).on ?_); intro xq) | (go_at_call 57; (first | refine (i_worst_any g off _ c xs l (-1) _ (by first | exact hs | exact hs.later _ | exact hs.alloc _ | exact (hs.alloc _).later _ | exact (hs.later _).alloc _ | exact ((hs.later _).alloc _).later _ | exact ((hs.alloc _).later _).alloc _ | exact (hs.alloc _).alloc _ | exact ((hs.alloc _).alloc _).later _ | exact (((hs.alloc _).later _).alloc _).later _) h15 hx.out l0 l1).onL ?_ | refine (i_worst_any g off _ c xs l (-1) _ (by first | exact hs | exact hs.later _ | exact hs.alloc _ | exact (hs.alloc _).later _ | exact (hs.later _).alloc _ | exact ((hs.later _).alloc _).later _ | exact ((hs.alloc _).later _).alloc _ | exact (hs.alloc _).alloc _ | exact ((hs.alloc _).alloc _).later _ | exact (((hs.alloc _).later _).alloc _).later _) h15 hx.out l0 l1).on ?_); intro xq))
      go_ret3
      exact ⟨by rw [hfin.out]; rfl, (by repeat (with_reducible first | exact Below.refl _ _ | refine bw_later ?_ _ | refine bw_alloc ?_ _ | refine bw_drew ?_ | refine bw_set ?_ (Nat.le_refl _) _ | refine bw_set ?_ ?_ _ | exact Nat.le_refl _ | exact later_size _ _ | refine Nat.le_trans ?_ (later_size _ _) | refine Nat.le_trans ?_ (size_alloc_le _ _) | refine Nat.le_trans ?_ (Nat.le_add_right _ _)))⟩
    · have hfin := Lib.hid (show worstF k xs l = (0, 0, false) by simp [worstF, *])
      unfold R5.v
      go_enter Try.func33, Try.ntmps33
      go_wp2_with (first | (go_at_call 28; (first | refine (impl_AreDamages_any k g off _ c xs _ (by first | exact hs | exact hs.later _ | exact hs.alloc _ | exact (hs.alloc _).later _ | exact (hs.later _).alloc _ | exact ((hs.later _).alloc _).later _ | exact ((hs.alloc _).later _).alloc _ | exact (hs.alloc _).alloc _ | exact ((hs.alloc _).alloc _).later _ | exact (((hs.alloc _).later _).alloc _).later _) hn).onL ?_ | refine (impl_AreDamages_any k g off _ c xs _ (by first | exact hs | exact hs.later _ | exact hs.alloc _ | exact (hs.alloc _).later _ | exact (hs.later _).alloc _ | exact ((hs.later _).alloc _).later _ | exact ((hs.alloc _).later _).alloc _ | exact (hs.alloc _).alloc _ | exact ((hs.alloc _).alloc _).later _ | exact (((hs.alloc _).later _).alloc _).later _) hn).on ?_); intro xq) | (go_at_call 44; (first | refine (within_any _ _ _ _).onL ?_ | refine (within_any _ _ _ _).on ?_); intro xq) | (go_at_call 57; (first | refine (i_worst_any g off _ c xs l (-1) _ (by first | exact hs | exact hs.later _ | exact hs.alloc _ | exact (hs.alloc _).later _ | exact (hs.later _).alloc _ | exact ((hs.later _).alloc _).later _ | exact ((hs.alloc _).later _).alloc _ | exact (hs.alloc _).alloc _ | exact ((hs.alloc _).alloc _).later _ | exact (((hs.alloc _).later _).alloc _).later _) h15 hx.out l0 l1).onL ?_ | refine (i_worst_any g off _ c xs l (-1) _ (by first | exact hs | exact hs.later _ | exact hs.alloc _ | exact (hs.alloc _).later _ | exact (hs.later _).alloc _ | exact ((hs.later _).alloc _).later _ | exact ((hs.alloc _).later _).alloc _ | exact (hs.alloc _).alloc _ | exact ((hs.alloc _).alloc _).later _ | exact (((hs.alloc _).later _).alloc _).later _) h15 hx.out l0 l1).on ?_); intro xq))
      go_ret3
      exact ⟨by rw [hfin.out]; rfl, (by repeat (with_reducible first | exact Below.refl _ _ | refine bw_later ?_ _ | refine bw_alloc ?_ _ | refine bw_drew ?_ | refine bw_set ?_ (Nat.le_refl _) _ | refine bw_set ?_ ?_ _ | exact Nat.le_refl _ | exact later_size _ _ | refine Nat.le_trans ?_ (later_size _ _) | refine Nat.le_trans ?_ (size_alloc_le _ _) | refine Nat.le_trans ?_ (Nat.le_add_right _ _)))⟩
  rcases Nat.eq_zero_or_pos n with hz | hz
  · have hz' := hs.2.1
    subst hz
    have hfin := Lib.hid (show worstF k xs l = (0, 0, false) by simp [worstF, *])
    unfold R5.v
    go_enter Try.func33, Try.ntmps33
    go_wp2_with (first | (go_at_call 28; (first | refine (impl_AreDamages_any k g off _ c xs _ (by first | exact hs | exact hs.later _ | exact hs.alloc _ | exact (hs.alloc _).later _ | exact (hs.later _).alloc _ | exact ((hs.later _).alloc _).later _ | exact ((hs.alloc _).later _).alloc _ | exact (hs.alloc _).alloc _ | exact ((hs.alloc _).alloc _).later _ | exact (((hs.alloc _).later _).alloc _).later _) hn).onL ?_ | refine (impl_AreDamages_any k g off _ c xs _ (by first | exact hs | exact hs.later _ | exact hs.alloc _ | exact (hs.alloc _).later _ | exact (hs.later _).alloc _ | exact ((hs.later _).alloc _).later _ | exact ((hs.alloc _).later _).alloc _ | exact (hs.alloc _).alloc _ | exact ((hs.alloc _).alloc _).later _ | exact (((hs.alloc _).later _).alloc _).later _) hn).on ?_); intro xq) | (go_at_call 44; (first | refine (within_any _ _ _ _).onL ?_ | refine (within_any _ _ _ _).on ?_); intro xq) | (go_at_call 57; (first | refine (i_worst_any g off _ c xs l (-1) _ (by first | exact hs | exact hs.later _ | exact hs.alloc _ | exact (hs.alloc _).later _ | exact (hs.later _).alloc _ | exact ((hs.later _).alloc _).later _ | exact ((hs.alloc _).later _).alloc _ | exact (hs.alloc _).alloc _ | exact ((hs.alloc _).alloc _).later _ | exact (((hs.alloc _).later _).alloc _).later _) h15 hx.out l0 l1).onL ?_ | refine (i_worst_any g off _ c xs l (-1) _ (by first | exact hs | exact hs.later _ | exact hs.alloc _ | exact (hs.alloc _).later _ | exact (hs.later _).alloc _ | exact ((hs.later _).alloc _).later _ | exact ((hs.alloc _).later _).alloc _ | exact (hs.alloc _).alloc _ | exact ((hs.alloc _).alloc _).later _ | exact (((hs.alloc _).later _).alloc _).later _) h15 hx.out l0 l1).on ?_); intro xq))
    go_ret3
    exact ⟨by rw [hfin.out]; rfl, (by repeat (with_reducible first | exact Below.refl _ _ | refine bw_later ?_ _ | refine bw_alloc ?_ _ | refine bw_drew ?_ | refine bw_set ?_ (Nat.le_refl _) _ | refine bw_set ?_ ?_ _ | exact Nat.le_refl _ | exact later_size _ _ | refine Nat.le_trans ?_ (later_size _ _) | refine Nat.le_trans ?_ (size_alloc_le _ _) | refine Nat.le_trans ?_ (Nat.le_add_right _ _)))⟩
  have hx := Lib.hid (wires_of h0)
  have h15 : n ≤ 15 := by have := (okDam_t h0).2.1; have := hs.2.1; omega
  obtain ⟨l0, l1⟩ := inB_t h2
  have hfin := Lib.hid (show worstF k xs l = ((worstTo 0 l (-1) xs n).1, (worstTo 0 l (-1) xs n).2, true) by simp [worstF, h0, h2, hs.2.1, hz])
  have hsame := Lib.hid (worst_same hx.out l0 n hz (by rw [hs.2.1]; omega))
  unfold R5.v
  go_enter Try.func33, Try.ntmps33
  go_wp2_with (first | (go_at_call 28; (first | refine (impl_AreDamages_any k g off _ c xs _ (by first | exact hs | exact hs.later _ | exact hs.alloc _ | exact (hs.alloc _).later _ | exact (hs.later _).alloc _ | exact ((hs.later _).alloc _).later _ | exact ((hs.alloc _).later _).alloc _ | exact (hs.alloc _).alloc _ | exact ((hs.alloc _).alloc _).later _ | exact (((hs.alloc _).later _).alloc _).later _) hn).onL ?_ | refine (impl_AreDamages_any k g off _ c xs _ (by first | exact hs | exact hs.later _ | exact hs.alloc _ | exact (hs.alloc _).later _ | exact (hs.later _).alloc _ | exact ((hs.later _).alloc _).later _ | exact ((hs.alloc _).later _).alloc _ | exact (hs.alloc _).alloc _ | exact ((hs.alloc _).alloc _).later _ | exact (((hs.alloc _).later _).alloc _).later _) hn).on ?_); intro xq) | (go_at_call 44; (first | refine (within_any _ _ _ _).onL ?_ | refine (within_any _ _ _ _).on ?_); intro xq) | (go_at_call 57; (first | refine (i_worst_any g off _ c xs l (-1) _ (by first | exact hs | exact hs.later _ | exact hs.alloc _ | exact (hs.alloc _).later _ | exact (hs.later _).alloc _ | exact ((hs.later _).alloc _).later _ | exact ((hs.alloc _).later _).alloc _ | exact (hs.alloc _).alloc _ | exact ((hs.alloc _).alloc _).later _ | exact (((hs.alloc _).later _).alloc _).later _) h15 hx.out l0 l1).onL ?_ | refine (i_worst_any g off _ c xs l (-1) _ (by first | exact hs | exact hs.later _ | exact hs.alloc _ | exact (hs.alloc _).later _ | exact (hs.later _).alloc _ | exact ((hs.later _).alloc _).later _ | exact ((hs.alloc _).later _).alloc _ | exact (hs.alloc _).alloc _ | exact ((hs.alloc _).alloc _).later _ | exact (((hs.alloc _).later _).alloc _).later _) h15 hx.out l0 l1).on ?_); intro xq))
  go_ret3
  exact ⟨by rw [hfin.out]; first | rfl | (rw [hsame.out]; rfl), (by repeat (with_reducible first | exact Below.refl _ _ | refine bw_later ?_ _ | refine bw_alloc ?_ _ | refine bw_drew ?_ | refine bw_set ?_ (Nat.le_refl _) _ | refine bw_set ?_ ?_ _ | exact Nat.le_refl _ | exact later_size _ _ | refine Nat.le_trans ?_ (later_size _ _) | refine Nat.le_trans ?_ (size_alloc_le _ _) | refine Nat.le_trans ?_ (Nat.le_add_right _ _)))⟩
theorem s_WorstWindow_any (k : R5) (g off n c : Nat) (xs : List R3) (l : Int) (w : World) (hs : SR3 w g off n xs) (hn : n ≤ 1048576) : Gv Try.prog 32 #[k.v, .slice (some ⟨g, off, none⟩) n c, .int .i64 l] w (.tuple #[.int .i64 ((worstF k xs l)).1, .int .i64 (((worstF k xs l)).2).1, .bool (((worstF k xs l)).2).2]) := by
  unfold Gv
  cases h0 : okDam k xs
  · have hfin := Lib.hid (show worstF k xs l = (0, 0, false) by simp [worstF, *])
    unfold R5.v
    go_enter Try.func32, Try.ntmps32
    go_wp2_with (first | (go_at_call 48; (first | refine (l3Good_any k g off _ c xs _ (by first | exact hs | exact hs.later _ | exact hs.alloc _ | exact (hs.alloc _).later _ | exact (hs.later _).alloc _ | exact ((hs.later _).alloc _).later _ | exact ((hs.alloc _).later _).alloc _ | exact (hs.alloc _).alloc _ | exact ((hs.alloc _).alloc _).later _ | exact (((hs.alloc _).later _).alloc _).later _) hn).onL ?_ | refine (l3Good_any k g off _ c xs _ (by first | exact hs | exact hs.later _ | exact hs.alloc _ | exact (hs.alloc _).later _ | exact (hs.later _).alloc _ | exact ((hs.later _).alloc _).later _ | exact ((hs.alloc _).later _).alloc _ | exact (hs.alloc _).alloc _ | exact ((hs.alloc _).alloc _).later _ | exact (((hs.alloc _).later _).alloc _).later _) hn).on ?_); intro xq) | (go_at_call 53; (first | refine (l3Length_any _ _).onL ?_ | refine (l3Length_any _ _).on ?_); intro xq) | (go_at_call 56; (first | refine (s_worst_any g off _ c xs l (-1) _ (by first | exact hs | exact hs.later _ | exact hs.alloc _ | exact (hs.alloc _).later _ | exact (hs.later _).alloc _ | exact ((hs.later _).alloc _).later _ | exact ((hs.alloc _).later _).alloc _ | exact (hs.alloc _).alloc _ | exact ((hs.alloc _).alloc _).later _ | exact (((hs.alloc _).later _).alloc _).later _) h15 hx.out l0 l1).onL ?_ | refine (s_worst_any g off _ c xs l (-1) _ (by first | exact hs | exact hs.later _ | exact hs.alloc _ | exact (hs.alloc _).later _ | exact (hs.later _).alloc _ | exact ((hs.later _).alloc _).later _ | exact ((hs.alloc _).later _).alloc _ | exact (hs.alloc _).alloc _ | exact ((hs.alloc _).alloc _).later _ | exact (((hs.alloc _).later _).alloc _).later _) h15 hx.out l0 l1).on ?_); intro xq))
    go_ret3
    exact ⟨by rw [hfin.out]; rfl, (by repeat (with_reducible first | exact Below.refl _ _ | refine bw_later ?_ _ | refine bw_alloc ?_ _ | refine bw_drew ?_ | refine bw_set ?_ (Nat.le_refl _) _ | refine bw_set ?_ ?_ _ | exact Nat.le_refl _ | exact later_size _ _ | refine Nat.le_trans ?_ (later_size _ _) | refine Nat.le_trans ?_ (size_alloc_le _ _) | refine Nat.le_trans ?_ (Nat.le_add_right _ _)))⟩
  cases h2 : inB l 1 3000
  · rcases Nat.eq_zero_or_pos n with hz | hz
    · have hz' := hs.2.1
      subst hz
      have hfin := Lib.hid (show worstF k xs l = (0, 0, false) by simp [worstF, *])
      unfold R5.v
      go_enter Try.func32, Try.ntmps32
      go_wp2_with (first | (go_at_call 48; (first | refine (l3Good_any k g off _ c xs _ (by first | exact hs | exact hs.later _ | exact hs.alloc _ | exact (hs.alloc _).later _ | exact (hs.later _).alloc _ | exact ((hs.later _).alloc _).later _ | exact ((hs.alloc _).later _).alloc _ | exact (hs.alloc _).alloc _ | exact ((hs.alloc _).alloc _).later _ | exact (((hs.alloc _).later _).alloc _).later _) hn).onL ?_ | refine (l3Good_any k g off _ c xs _ (by first | exact hs | exact hs.later _ | exact hs.alloc _ | exact (hs.alloc _).later _ | exact (hs.later _).alloc _ | exact ((hs.later _).alloc _).later _ | exact ((hs.alloc _).later _).alloc _ | exact (hs.alloc _).alloc _ | exact ((hs.alloc _).alloc _).later _ | exact (((hs.alloc _).later _).alloc _).later _) hn).on ?_); intro xq) | (go_at_call 53; (first | refine (l3Length_any _ _).onL ?_ | refine (l3Length_any _ _).on ?_); intro xq) | (go_at_call 56; (first | refine (s_worst_any g off _ c xs l (-1) _ (by first | exact hs | exact hs.later _ | exact hs.alloc _ | exact (hs.alloc _).later _ | exact (hs.later _).alloc _ | exact ((hs.later _).alloc _).later _ | exact ((hs.alloc _).later _).alloc _ | exact (hs.alloc _).alloc _ | exact ((hs.alloc _).alloc _).later _ | exact (((hs.alloc _).later _).alloc _).later _) h15 hx.out l0 l1).onL ?_ | refine (s_worst_any g off _ c xs l (-1) _ (by first | exact hs | exact hs.later _ | exact hs.alloc _ | exact (hs.alloc _).later _ | exact (hs.later _).alloc _ | exact ((hs.later _).alloc _).later _ | exact ((hs.alloc _).later _).alloc _ | exact (hs.alloc _).alloc _ | exact ((hs.alloc _).alloc _).later _ | exact (((hs.alloc _).later _).alloc _).later _) h15 hx.out l0 l1).on ?_); intro xq))
      go_ret3
      exact ⟨by rw [hfin.out]; rfl, (by repeat (with_reducible first | exact Below.refl _ _ | refine bw_later ?_ _ | refine bw_alloc ?_ _ | refine bw_drew ?_ | refine bw_set ?_ (Nat.le_refl _) _ | refine bw_set ?_ ?_ _ | exact Nat.le_refl _ | exact later_size _ _ | refine Nat.le_trans ?_ (later_size _ _) | refine Nat.le_trans ?_ (size_alloc_le _ _) | refine Nat.le_trans ?_ (Nat.le_add_right _ _)))⟩
    · have hfin := Lib.hid (show worstF k xs l = (0, 0, false) by simp [worstF, *])
      unfold R5.v
      go_enter Try.func32, Try.ntmps32
      go_wp2_with (first | (go_at_call 48; (first | refine (l3Good_any k g off _ c xs _ (by first | exact hs | exact hs.later _ | exact hs.alloc _ | exact (hs.alloc _).later _ | exact (hs.later _).alloc _ | exact ((hs.later _).alloc _).later _ | exact ((hs.alloc _).later _).alloc _ | exact (hs.alloc _).alloc _ | exact ((hs.alloc _).alloc _).later _ | exact (((hs.alloc _).later _).alloc _).later _) hn).onL ?_ | refine (l3Good_any k g off _ c xs _ (by first | exact hs | exact hs.later _ | exact hs.alloc _ | exact (hs.alloc _).later _ | exact (hs.later _).alloc _ | exact ((hs.later _).alloc _).later _ | exact ((hs.alloc _).later _).alloc _ | exact (hs.alloc _).alloc _ | exact ((hs.alloc _).alloc _).later _ | exact (((hs.alloc _).later _).alloc _).later _) hn).on ?_); intro xq) | (go_at_call 53; (first | refine (l3Length_any _ _).onL ?_ | refine (l3Length_any _ _).on ?_); intro xq) | (go_at_call 56; (first | refine (s_worst_any g off _ c xs l (-1) _ (by first | exact hs | exact hs.later _ | exact hs.alloc _ | exact (hs.alloc _).later _ | exact (hs.later _).alloc _ | exact ((hs.later _).alloc _).later _ | exact ((hs.alloc _).later _).alloc _ | exact (hs.alloc _).alloc _ | exact ((hs.alloc _).alloc _).later _ | exact (((hs.alloc _).later _).alloc _).later _) h15 hx.out l0 l1).onL ?_ | refine (s_worst_any g off _ c xs l (-1) _ (by first | exact hs | exact hs.later _ | exact hs.alloc _ | exact (hs.alloc _).later _ | exact (hs.later _).alloc _ | exact ((hs.later _).alloc _).later _ | exact ((hs.alloc _).later _).alloc _ | exact (hs.alloc _).alloc _ | exact ((hs.alloc _).alloc _).later _ | exact (((hs.alloc _).later _).alloc _).later _) h15 hx.out l0 l1).on ?_); intro xq))
      go_ret3
      exact ⟨by rw [hfin.out]; rfl, (by repeat (with_reducible first | exact Below.refl _ _ | refine bw_later ?_ _ | refine bw_alloc ?_ _ | refine bw_drew ?_ | refine bw_set ?_ (Nat.le_refl _) _ | refine bw_set ?_ ?_ _ | exact Nat.le_refl _ | exact later_size _ _ | refine Nat.le_trans ?_ (later_size _ _) | refine Nat.le_trans ?_ (size_alloc_le _ _) | refine Nat.le_trans ?_ (Nat.le_add_right _ _)))⟩
  rcases Nat.eq_zero_or_pos n with hz | hz
  · have hz' := hs.2.1
    subst hz
    have hfin := Lib.hid (show worstF k xs l = (0, 0, false) by simp [worstF, *])
    unfold R5.v
    go_enter Try.func32, Try.ntmps32
    go_wp2_with (first | (go_at_call 48; (first | refine (l3Good_any k g off _ c xs _ (by first | exact hs | exact hs.later _ | exact hs.alloc _ | exact (hs.alloc _).later _ | exact (hs.later _).alloc _ | exact ((hs.later _).alloc _).later _ | exact ((hs.alloc _).later _).alloc _ | exact (hs.alloc _).alloc _ | exact ((hs.alloc _).alloc _).later _ | exact (((hs.alloc _).later _).alloc _).later _) hn).onL ?_ | refine (l3Good_any k g off _ c xs _ (by first | exact hs | exact hs.later _ | exact hs.alloc _ | exact (hs.alloc _).later _ | exact (hs.later _).alloc _ | exact ((hs.later _).alloc _).later _ | exact ((hs.alloc _).later _).alloc _ | exact (hs.alloc _).alloc _ | exact ((hs.alloc _).alloc _).later _ | exact (((hs.alloc _).later _).alloc _).later _) hn).on ?_); intro xq) | (go_at_call 53; (first | refine (l3Length_any _ _).onL ?_ | refine (l3Length_any _ _).on ?_); intro xq) | (go_at_call 56; (first | refine (s_worst_any g off _ c xs l (-1) _ (by first | exact hs | exact hs.later _ | exact hs.alloc _ | exact (hs.alloc _).later _ | exact (hs.later _).alloc _ | exact ((hs.later _).alloc _).later _ | exact ((hs.alloc _).later _).alloc _ | exact (hs.alloc _).alloc _ | exact ((hs.alloc _).alloc _).later _ | exact (((hs.alloc _).later _).alloc _).later _) h15 hx.out l0 l1).onL ?_ | refine (s_worst_any g off _ c xs l (-1) _ (by first | exact hs | exact hs.later _ | exact hs.alloc _ | exact (hs.alloc _).later _ | exact (hs.later _).alloc _ | exact ((hs.later _).alloc _).later _ | exact ((hs.alloc _).later _).alloc _ | exact (hs.alloc _).alloc _ | exact ((hs.alloc _).alloc _).later _ | exact (((hs.alloc _).later _).alloc _).later _) h15 hx.out l0 l1).on ?_); intro xq))
    go_ret3
    exact ⟨by rw [hfin.out]; rfl, (by repeat (with_reducible first | exact Below.refl _ _ | refine bw_later ?_ _ | refine bw_alloc ?_ _ | refine bw_drew ?_ | refine bw_set ?_ (Nat.le_refl _) _ | refine bw_set ?_ ?_ _ | exact Nat.le_refl _ | exact later_size _ _ | refine Nat.le_trans ?_ (later_size _ _) | refine Nat.le_trans ?_ (size_alloc_le _ _) | refine Nat.le_trans ?_ (Nat.le_add_right _ _)))⟩
  have hx := Lib.hid (wires_of h0)
  have h15 : n ≤ 15 := by have := (okDam_t h0).2.1; have := hs.2.1; omega
  obtain ⟨l0, l1⟩ := inB_t h2
  have hfin := Lib.hid (show worstF k xs l = ((worstTo 0 l (-1) xs n).1, (worstTo 0 l (-1) xs n).2, true) by simp [worstF, h0, h2, hs.2.1, hz])
  have hsame := Lib.hid (worst_same hx.out l0 n hz (by rw [hs.2.1]; omega))
  unfold R5.v
  go_enter Try.func32, Try.ntmps32
  go_wp2_with (first | (go_at_call 48; (first | refine (l3Good_any k g off _ c xs _ (by first | exact hs | exact hs.later _ | exact hs.alloc _ | exact (hs.alloc _).later _ | exact (hs.later _).alloc _ | exact ((hs.later _).alloc _).later _ | exact ((hs.alloc _).later _).alloc _ | exact (hs.alloc _).alloc _ | exact ((hs.alloc _).alloc _).later _ | exact (((hs.alloc _).later _).alloc _).later _) hn).onL ?_ | refine (l3Good_any k g off _ c xs _ (by first | exact hs | exact hs.later _ | exact hs.alloc _ | exact (hs.alloc _).later _ | exact (hs.later _).alloc _ | exact ((hs.later _).alloc _).later _ | exact ((hs.alloc _).later _).alloc _ | exact (hs.alloc _).alloc _ | exact ((hs.alloc _).alloc _).later _ | exact (((hs.alloc _).later _).alloc _).later _) hn).on ?_); intro xq) | (go_at_call 53; (first | refine (l3Length_any _ _).onL ?_ | refine (l3Length_any _ _).on ?_); intro xq) | (go_at_call 56; (first | refine (s_worst_any g off _ c xs l (-1) _ (by first | exact hs | exact hs.later _ | exact hs.alloc _ | exact (hs.alloc _).later _ | exact (hs.later _).alloc _ | exact ((hs.later _).alloc _).later _ | exact ((hs.alloc _).later _).alloc _ | exact (hs.alloc _).alloc _ | exact ((hs.alloc _).alloc _).later _ | exact (((hs.alloc _).later _).alloc _).later _) h15 hx.out l0 l1).onL ?_ | refine (s_worst_any g off _ c xs l (-1) _ (by first | exact hs | exact hs.later _ | exact hs.alloc _ | exact (hs.alloc _).later _ | exact (hs.later _).alloc _ | exact ((hs.later _).alloc _).later _ | exact ((hs.alloc _).later _).alloc _ | exact (hs.alloc _).alloc _ | exact ((hs.alloc _).alloc _).later _ | exact (((hs.alloc _).later _).alloc _).later _) h15 hx.out l0 l1).on ?_); intro xq))
  go_ret3
  exact ⟨by rw [hfin.out]; first | rfl | (rw [hsame.out]; rfl), (by repeat (with_reducible first | exact Below.refl _ _ | refine bw_later ?_ _ | refine bw_alloc ?_ _ | refine bw_drew ?_ | refine bw_set ?_ (Nat.le_refl _) _ | refine bw_set ?_ ?_ _ | exact Nat.le_refl _ | exact later_size _ _ | refine Nat.le_trans ?_ (later_size _ _) | refine Nat.le_trans ?_ (size_alloc_le _ _) | refine Nat.le_trans ?_ (Nat.le_add_right _ _)))⟩
theorem law_WorstWindow (r0 : R5) (A1 : Option Addr) (n1 c1 : Nat) (xs1 : List R3) (a2 : Int) (w : World) (rd1 : AR3 w A1 n1 xs1 ∧ n1 ≤ 9223372036854775807) (_ia2 : I64 a2) : Gv Try.prog 9 #[r0.v, .slice A1 n1 c1, .int .i64 a2] w (.bool true) := by
  obtain ⟨ha1, hm1⟩ := rd1
  replace ha1 := ha1.below2 (w' := (w.alloc (.cells #[.int .i64 r0.a, .int .i64 r0.b, .int .i64 r0.c, .int .i64 r0.d, .int .i64 r0.e] 23))) (bw_alloc (Below.refl _ _) _)
  unfold Gv
  unfold R5.v
  by_cases k1 : 1048576 < n1
  · have z1 : szF n1 ((1048576 : Int)) = -1 := by unfold szF; rw [if_pos (by omega)]
    go_enter Try.func9, Try.ntmps9
    go_wp2_with fail
    refine Calls.mono (szDamage_any A1 n1 c1 ((1048576 : Int)) hm1 (by omega) (by omega) _) ?_
    rintro _ w1 ⟨rfl, b1⟩
    have hw := b1
    rw [z1]
    clear z1
    go_wp2_with fail
    go_ret
    exact ⟨rfl, bw_trans (bw_alloc (Below.refl _ _) _) hw⟩
  · have hn1 : n1 ≤ 1048576 := by omega
    have z1 : szF n1 ((1048576 : Int)) = (1048576 : Int) - (n1 : Int) := by unfold szF; rw [if_neg (by omega)]
    go_enter Try.func9, Try.ntmps9
    go_wp2_with fail
    refine Calls.mono (szDamage_any A1 n1 c1 ((1048576 : Int)) hm1 (by omega) (by omega) _) ?_
    rintro _ w1 ⟨rfl, b1⟩
    replace ha1 := ha1.below2 b1
    have hw := b1
    rw [z1]
    clear z1
    have e0 : w1.cell? ⟨w.heap.size, 0, none⟩ = some (.int .i64 r0.a) := (hw.cell (p := ⟨_, _, none⟩) (by simp)).trans (by simp [go_sem])
    have e1 : w1.cell? ⟨w.heap.size, 1, none⟩ = some (.int .i64 r0.b) := (hw.cell (p := ⟨_, _, none⟩) (by simp)).trans (by simp [go_sem])
    have e2 : w1.cell? ⟨w.heap.size, 2, none⟩ = some (.int .i64 r0.c) := (hw.cell (p := ⟨_, _, none⟩) (by simp)).trans (by simp [go_sem])
    have e3 : w1.cell? ⟨w.heap.size, 3, none⟩ = some (.int .i64 r0.d) := (hw.cell (p := ⟨_, _, none⟩) (by simp)).trans (by simp [go_sem])
    have e4 : w1.cell? ⟨w.heap.size, 4, none⟩ = some (.int .i64 r0.e) := (hw.cell (p := ⟨_, _, none⟩) (by simp)).trans (by simp [go_sem])
    go_wp2_with fail
    refine Calls.mono (toRopeKind_any r0 _) ?_
    rintro _ w2 ⟨rfl, b2⟩
    replace ha1 := ha1.below2 b2
    replace hw := bw_trans hw b2
    unfold R5.v
    clear e0 e1 e2 e3 e4
    go_wp2_with fail
    refine Calls.mono (toDamageS_any A1 n1 c1 xs1 _ ha1 hn1) ?_
    rintro _ w3 ⟨g3, rfl, q3, hB3, b3⟩
    replace ha1 := ha1.below2 b3
    replace hw := bw_trans hw b3
    go_wp2_with fail
    refine Calls.mono (s_WorstWindow_any r0 g3 0 n1 n1 xs1 a2 _ hB3.reads hn1) ?_
    rintro _ w4 ⟨rfl, b4⟩
    replace ha1 := ha1.below2 b4
    replace hB3 := hB3.below2 b4
    replace hw := bw_trans hw b4
    go_wp2_with fail
    refine Calls.mono (toDamageS_any A1 n1 c1 xs1 _ ha1 hn1) ?_
    rintro _ w5 ⟨g5, rfl, q5, hB5, b5⟩
    replace ha1 := ha1.below2 b5
    replace hB3 := hB3.below2 b5
    replace hw := bw_trans hw b5
    have e0 : w5.cell? ⟨w.heap.size, 0, none⟩ = some (.int .i64 r0.a) := (hw.cell (p := ⟨_, _, none⟩) (by simp)).trans (by simp [go_sem])
    have e1 : w5.cell? ⟨w.heap.size, 1, none⟩ = some (.int .i64 r0.b) := (hw.cell (p := ⟨_, _, none⟩) (by simp)).trans (by simp [go_sem])
    have e2 : w5.cell? ⟨w.heap.size, 2, none⟩ = some (.int .i64 r0.c) := (hw.cell (p := ⟨_, _, none⟩) (by simp)).trans (by simp [go_sem])
    have e3 : w5.cell? ⟨w.heap.size, 3, none⟩ = some (.int .i64 r0.d) := (hw.cell (p := ⟨_, _, none⟩) (by simp)).trans (by simp [go_sem])
    have e4 : w5.cell? ⟨w.heap.size, 4, none⟩ = some (.int .i64 r0.e) := (hw.cell (p := ⟨_, _, none⟩) (by simp)).trans (by simp [go_sem])
    go_wp2_with fail
    refine Calls.mono (toRopeKind_any r0 _) ?_
    rintro _ w6 ⟨rfl, b6⟩
    replace ha1 := ha1.below2 b6
    replace hB3 := hB3.below2 b6
    replace hB5 := hB5.below2 b6
    replace hw := bw_trans hw b6
    unfold R5.v
    clear e0 e1 e2 e3 e4
    go_wp2_with fail
    refine Calls.mono (i_WorstWindow_any r0 g5 0 n1 n1 xs1 a2 _ hB5.reads hn1) ?_
    rintro _ w7 ⟨rfl, b7⟩
    replace ha1 := ha1.below2 b7
    replace hB3 := hB3.below2 b7
    replace hB5 := hB5.below2 b7
    replace hw := bw_trans hw b7
    go_wp2_with fail
    refine Calls.mono (toDamageS_any A1 n1 c1 xs1 _ ha1 hn1) ?_
    rintro _ w8 ⟨g8, rfl, q8, hB8, b8⟩
    replace ha1 := ha1.below2 b8
    replace hB3 := hB3.below2 b8
    replace hB5 := hB5.below2 b8
    replace hw := bw_trans hw b8
    go_wp2_with fail
    refine Calls.mono (eqDamageS_any _ _ n1 n1 n1 n1 xs1 xs1 _ (AR3.of hB5.reads) (AR3.of hB8.reads) hn1 hn1) ?_
    rintro _ w9 ⟨rfl, b9⟩
    replace ha1 := ha1.below2 b9
    replace hB3 := hB3.below2 b9
    replace hB5 := hB5.below2 b9
    replace hB8 := hB8.below2 b9
    replace hw := bw_trans hw b9
    go_wp2_with fail
    go_ret
    exact ⟨rfl, bw_trans (bw_alloc (Below.refl _ _) _) hw⟩
end Go.Proofs.Ytagplkdeallbmaa
