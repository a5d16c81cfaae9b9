/- A single kind of rope: its validity and its weight. -/
import Derived.Test.YtagplkdeallbmaaWithin
import Derived.Test.YtagplkdeallbmaaTo
namespace Go.Proofs.Ytagplkdeallbmaa
open Go.RowKit
def isKind (r : R5) : Bool := inB r.a 1 20 && inB r.b 4 8 && inB r.c 7 40 && inB r.d 10 500 && inB r.e 10 5000
theorem impl_IsRopeKind_any (r : R5) (w : World) : Gv Try.prog 15 #[r.v] w (.bool (isKind r)) := by
  unfold Gv R5.v isKind
  go_enter Try.func15, Try.ntmps15
  go_wp2_with (go_at_call 44; (first | refine (within_any _ _ _ _).onL ?_ | refine (within_any _ _ _ _).on ?_); intro xq)
  all_goals (go_ret; exact ⟨ret_bool (by simp [*]), (by repeat (with_reducible first | exact Below.refl _ _ | refine bw_later ?_ _ | refine bw_alloc ?_ _ | refine bw_drew ?_ | refine bw_set ?_ (Nat.le_refl _) _ | refine bw_set ?_ ?_ _ | exact Nat.le_refl _ | exact later_size _ _ | refine Nat.le_trans ?_ (later_size _ _) | refine Nat.le_trans ?_ (size_alloc_le _ _) | refine Nat.le_trans ?_ (Nat.le_add_right _ _)))⟩)
theorem l3Kind_any (r : R5) (w : World) : Gv Try.prog 43 #[r.v] w (.bool (isKind r)) := by
  unfold Gv R5.v isKind
  go_enter Try.func43, Try.ntmps43
  go_wp2_with (first | (go_at_call 45; (first | refine (in_any _ _ _ _).onL ?_ | refine (in_any _ _ _ _).on ?_); intro xq))
  all_goals (go_ret; exact ⟨ret_bool (by simp [*]), (by repeat (with_reducible first | exact Below.refl _ _ | refine bw_later ?_ _ | refine bw_alloc ?_ _ | refine bw_drew ?_ | refine bw_set ?_ (Nat.le_refl _) _ | refine bw_set ?_ ?_ _ | exact Nat.le_refl _ | exact later_size _ _ | refine Nat.le_trans ?_ (later_size _ _) | refine Nat.le_trans ?_ (size_alloc_le _ _) | refine Nat.le_trans ?_ (Nat.le_add_right _ _)))⟩)
theorem spec_IsRopeKind_any (r : R5) (w : World) : Gv Try.prog 13 #[r.v] w (.bool (isKind r)) := by
  unfold Gv R5.v
  go_enter Try.func13, Try.ntmps13
  go_wp2_with (go_at_call 43; (first | refine (l3Kind_any r _).onL ?_ | refine (l3Kind_any r _).on ?_); intro xq)
  all_goals (go_ret; exact ⟨rfl, (by repeat (with_reducible first | exact Below.refl _ _ | refine bw_later ?_ _ | refine bw_alloc ?_ _ | refine bw_drew ?_ | refine bw_set ?_ (Nat.le_refl _) _ | refine bw_set ?_ ?_ _ | exact Nat.le_refl _ | exact later_size _ _ | refine Nat.le_trans ?_ (later_size _ _) | refine Nat.le_trans ?_ (size_alloc_le _ _) | refine Nat.le_trans ?_ (Nat.le_add_right _ _)))⟩)
theorem law_IsRopeKind (r : R5) (w : World) : Gv Try.prog 3 #[r.v] w (.bool true) := by
  unfold Gv R5.v
  go_enter Try.func3, Try.ntmps3
  go_wp2_with (first | (go_at_call 14; (first | refine (toRopeKind_any r _).onL ?_ | refine (toRopeKind_any r _).on ?_); intro xq; unfold R5.v) | (go_at_call 13; (first | refine (spec_IsRopeKind_any r _).onL ?_ | refine (spec_IsRopeKind_any r _).on ?_); intro xq) | (go_at_call 15; (first | refine (impl_IsRopeKind_any r _).onL ?_ | refine (impl_IsRopeKind_any r _).on ?_); intro xq))
  all_goals (go_ret; exact ⟨rfl, (by repeat (with_reducible first | exact Below.refl _ _ | refine bw_later ?_ _ | refine bw_alloc ?_ _ | refine bw_drew ?_ | refine bw_set ?_ (Nat.le_refl _) _ | refine bw_set ?_ ?_ _ | exact Nat.le_refl _ | exact later_size _ _ | refine Nat.le_trans ?_ (later_size _ _) | refine Nat.le_trans ?_ (size_alloc_le _ _) | refine Nat.le_trans ?_ (Nat.le_add_right _ _)))⟩)
theorem kind_bd {r : R5} (h : isKind r = true) : (1 ≤ r.a ∧ r.a ≤ 20) ∧ (4 ≤ r.b ∧ r.b ≤ 8) ∧ (7 ≤ r.c ∧ r.c ≤ 40) ∧ (10 ≤ r.d ∧ r.d ≤ 500) ∧ (10 ≤ r.e ∧ r.e ≤ 5000) := by
  simp only [isKind, Bool.and_eq_true] at h
  obtain ⟨⟨⟨⟨h1, h2⟩, h3⟩, h4⟩, h5⟩ := h
  exact ⟨inB_t h1, inB_t h2, inB_t h3, inB_t h4, inB_t h5⟩
theorem prod_bd {a b A B : Int} (h0 : 0 ≤ a) (h1 : a ≤ A) (h2 : 0 ≤ b) (h3 : b ≤ B) : 0 ≤ a * b ∧ a * b ≤ A * B :=
  ⟨Int.mul_nonneg h0 h2, Int.mul_le_mul h1 h3 h2 (by omega)⟩
def ropeWeight (r : R5) (m : Int) : Int × Bool := if isKind r && inB m 0 20000 then ((m * r.d + 9) / 10, true) else (0, false)
theorem i_RopeWeight_any (r : R5) (m : Int) (w : World) : Gv Try.prog 17 #[r.v, .int .i64 m] w (.tuple #[.int .i64 (ropeWeight r m).1, .bool (ropeWeight r m).2]) := by
  unfold Gv
  by_cases g0 : isKind r = true
  · obtain ⟨-, -, -, ⟨b1, b2⟩, -⟩ := kind_bd g0
    by_cases g1 : inB m 0 20000 = true
    · obtain ⟨p1, p2⟩ := inB_t g1
      obtain ⟨k1, k2⟩ := prod_bd (a := m) (b := r.d) (A := 20000) (B := 500) (by omega) (by omega) (by omega) (by omega)
      unfold R5.v
      go_enter Try.func17, Try.ntmps17
      go_wp2_with (first | (go_at_call 15; (first | refine (impl_IsRopeKind_any r _).onL ?_ | refine (impl_IsRopeKind_any r _).on ?_); intro xq) | (go_at_call 44; (first | refine (within_any _ _ _ _).onL ?_ | refine (within_any _ _ _ _).on ?_); intro xq))
      go_ret2
      exact ⟨by simp [ropeWeight, g0, g1], (by repeat (with_reducible first | exact Below.refl _ _ | refine bw_later ?_ _ | refine bw_alloc ?_ _ | refine bw_drew ?_ | refine bw_set ?_ (Nat.le_refl _) _ | refine bw_set ?_ ?_ _ | exact Nat.le_refl _ | exact later_size _ _ | refine Nat.le_trans ?_ (later_size _ _) | refine Nat.le_trans ?_ (size_alloc_le _ _) | refine Nat.le_trans ?_ (Nat.le_add_right _ _)))⟩
    · unfold R5.v
      go_enter Try.func17, Try.ntmps17
      go_wp2_with (first | (go_at_call 15; (first | refine (impl_IsRopeKind_any r _).onL ?_ | refine (impl_IsRopeKind_any r _).on ?_); intro xq) | (go_at_call 44; (first | refine (within_any _ _ _ _).onL ?_ | refine (within_any _ _ _ _).on ?_); intro xq))
      go_ret2
      exact ⟨by simp [ropeWeight, g0, g1], (by repeat (with_reducible first | exact Below.refl _ _ | refine bw_later ?_ _ | refine bw_alloc ?_ _ | refine bw_drew ?_ | refine bw_set ?_ (Nat.le_refl _) _ | refine bw_set ?_ ?_ _ | exact Nat.le_refl _ | exact later_size _ _ | refine Nat.le_trans ?_ (later_size _ _) | refine Nat.le_trans ?_ (size_alloc_le _ _) | refine Nat.le_trans ?_ (Nat.le_add_right _ _)))⟩
  · unfold R5.v
    go_enter Try.func17, Try.ntmps17
    go_wp2_with (first | (go_at_call 15; (first | refine (impl_IsRopeKind_any r _).onL ?_ | refine (impl_IsRopeKind_any r _).on ?_); intro xq) | (go_at_call 44; (first | refine (within_any _ _ _ _).onL ?_ | refine (within_any _ _ _ _).on ?_); intro xq))
    go_ret2
    exact ⟨by simp [ropeWeight, g0], (by repeat (with_reducible first | exact Below.refl _ _ | refine bw_later ?_ _ | refine bw_alloc ?_ _ | refine bw_drew ?_ | refine bw_set ?_ (Nat.le_refl _) _ | refine bw_set ?_ ?_ _ | exact Nat.le_refl _ | exact later_size _ _ | refine Nat.le_trans ?_ (later_size _ _) | refine Nat.le_trans ?_ (size_alloc_le _ _) | refine Nat.le_trans ?_ (Nat.le_add_right _ _)))⟩
theorem s_RopeWeight_any (r : R5) (m : Int) (w : World) : Gv Try.prog 16 #[r.v, .int .i64 m] w (.tuple #[.int .i64 (ropeWeight r m).1, .bool (ropeWeight r m).2]) := by
  unfold Gv
  by_cases g0 : isKind r = true
  · obtain ⟨-, -, -, ⟨b1, b2⟩, -⟩ := kind_bd g0
    by_cases g1 : inB m 0 20000 = true
    · obtain ⟨p1, p2⟩ := inB_t g1
      obtain ⟨k1, k2⟩ := prod_bd (a := r.d) (b := m) (A := 500) (B := 20000) (by omega) (by omega) (by omega) (by omega)
      unfold R5.v
      go_enter Try.func16, Try.ntmps16
      go_wp2_with (first | (go_at_call 43; (first | refine (l3Kind_any r _).onL ?_ | refine (l3Kind_any r _).on ?_); intro xq) | (go_at_call 45; (first | refine (in_any _ _ _ _).onL ?_ | refine (in_any _ _ _ _).on ?_); intro xq))
      go_ret2
      exact ⟨by simp [ropeWeight, g0, g1, Int.mul_comm], (by repeat (with_reducible first | exact Below.refl _ _ | refine bw_later ?_ _ | refine bw_alloc ?_ _ | refine bw_drew ?_ | refine bw_set ?_ (Nat.le_refl _) _ | refine bw_set ?_ ?_ _ | exact Nat.le_refl _ | exact later_size _ _ | refine Nat.le_trans ?_ (later_size _ _) | refine Nat.le_trans ?_ (size_alloc_le _ _) | refine Nat.le_trans ?_ (Nat.le_add_right _ _)))⟩
    · unfold R5.v
      go_enter Try.func16, Try.ntmps16
      go_wp2_with (first | (go_at_call 43; (first | refine (l3Kind_any r _).onL ?_ | refine (l3Kind_any r _).on ?_); intro xq) | (go_at_call 45; (first | refine (in_any _ _ _ _).onL ?_ | refine (in_any _ _ _ _).on ?_); intro xq))
      go_ret2
      exact ⟨by simp [ropeWeight, g0, g1], (by repeat (with_reducible first | exact Below.refl _ _ | refine bw_later ?_ _ | refine bw_alloc ?_ _ | refine bw_drew ?_ | refine bw_set ?_ (Nat.le_refl _) _ | refine bw_set ?_ ?_ _ | exact Nat.le_refl _ | exact later_size _ _ | refine Nat.le_trans ?_ (later_size _ _) | refine Nat.le_trans ?_ (size_alloc_le _ _) | refine Nat.le_trans ?_ (Nat.le_add_right _ _)))⟩
  · unfold R5.v
    go_enter Try.func16, Try.ntmps16
    go_wp2_with (first | (go_at_call 43; (first | refine (l3Kind_any r _).onL ?_ | refine (l3Kind_any r _).on ?_); intro xq) | (go_at_call 45; (first | refine (in_any _ _ _ _).onL ?_ | refine (in_any _ _ _ _).on ?_); intro xq))
    go_ret2
    exact ⟨by simp [ropeWeight, g0], (by repeat (with_reducible first | exact Below.refl _ _ | refine bw_later ?_ _ | refine bw_alloc ?_ _ | refine bw_drew ?_ | refine bw_set ?_ (Nat.le_refl _) _ | refine bw_set ?_ ?_ _ | exact Nat.le_refl _ | exact later_size _ _ | refine Nat.le_trans ?_ (later_size _ _) | refine Nat.le_trans ?_ (size_alloc_le _ _) | refine Nat.le_trans ?_ (Nat.le_add_right _ _)))⟩
theorem law_RopeWeight (r : R5) (m : Int) (w : World) (_ : I64 m) : Gv Try.prog 4 #[r.v, .int .i64 m] w (.bool true) := by
  unfold Gv R5.v
  go_enter Try.func4, Try.ntmps4
  go_wp2_with (first | (go_at_call 14; (first | refine (toRopeKind_any r _).onL ?_ | refine (toRopeKind_any r _).on ?_); intro xq; unfold R5.v) | (go_at_call 16; (first | refine (s_RopeWeight_any r m _).onL ?_ | refine (s_RopeWeight_any r m _).on ?_); intro xq) | (go_at_call 17; (first | refine (i_RopeWeight_any r m _).onL ?_ | refine (i_RopeWeight_any r m _).on ?_); intro xq))
  all_goals (go_ret; exact ⟨rfl, (by repeat (with_reducible first | exact Below.refl _ _ | refine bw_later ?_ _ | refine bw_alloc ?_ _ | refine bw_drew ?_ | refine bw_set ?_ (Nat.le_refl _) _ | refine bw_set ?_ ?_ _ | exact Nat.le_refl _ | exact later_size _ _ | refine Nat.le_trans ?_ (later_size _ _) | refine Nat.le_trans ?_ (size_alloc_le _ _) | refine Nat.le_trans ?_ (Nat.le_add_right _ _)))⟩)
end Go.Proofs.Ytagplkdeallbmaa
