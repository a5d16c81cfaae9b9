/- A single cabin: its validity and its load. -/
import Derived.Test.YtnemamokjikdeaaWithin
import Derived.Test.YtnemamokjikdeaaTo
namespace Go.Proofs.Ytnemamokjikdeaa
open Go.RowKit
theorem l5State_any (n : Int) (w : World) : Gv Try.prog 44 #[.int .i64 n] w (.bool (inB n 0 3)) := by
  unfold Gv
  go_enter Try.func44, Try.ntmps44
  go_wp2_with (go_at_call 41; (first | refine (in_any _ _ _ _).onL ?_ | refine (in_any _ _ _ _).on ?_); intro xq)
  go_ret
  exact ⟨rfl, later_below _ _⟩
def isCabin (r : R5) : Bool := inB r.a 1 99 && inB r.b 1 16 && inB r.c 100 2000 && inB r.d 0 3 && inB r.e 0 99999
theorem impl_IsCabin_any (r : R5) (w : World) : Gv Try.prog 14 #[r.v] w (.bool (isCabin r)) := by
  unfold Gv R5.v isCabin
  go_enter Try.func14, Try.ntmps14
  go_wp2_with (go_at_call 40; (first | refine (within_any _ _ _ _).onL ?_ | refine (within_any _ _ _ _).on ?_); intro xq)
  all_goals (go_ret; exact ⟨ret_bool (by simp [*]), (by repeat (with_reducible first | exact Below.refl _ _ | refine bw_later ?_ _ | refine bw_alloc ?_ _ | refine bw_drew ?_ | refine bw_set ?_ (Nat.le_refl _) _ | refine bw_set ?_ ?_ _ | exact Nat.le_refl _ | exact later_size _ _ | refine Nat.le_trans ?_ (later_size _ _) | refine Nat.le_trans ?_ (size_alloc_le _ _) | refine Nat.le_trans ?_ (Nat.le_add_right _ _)))⟩)
theorem l5One_any (r : R5) (w : World) : Gv Try.prog 39 #[r.v] w (.bool (isCabin r)) := by
  unfold Gv R5.v isCabin
  go_enter Try.func39, Try.ntmps39
  go_wp2_with (first | (go_at_call 41; (first | refine (in_any _ _ _ _).onL ?_ | refine (in_any _ _ _ _).on ?_); intro xq) | (go_at_call 44; (first | refine (l5State_any _ _).onL ?_ | refine (l5State_any _ _).on ?_); intro xq))
  all_goals (go_ret; exact ⟨ret_bool (by simp [*]), (by repeat (with_reducible first | exact Below.refl _ _ | refine bw_later ?_ _ | refine bw_alloc ?_ _ | refine bw_drew ?_ | refine bw_set ?_ (Nat.le_refl _) _ | refine bw_set ?_ ?_ _ | exact Nat.le_refl _ | exact later_size _ _ | refine Nat.le_trans ?_ (later_size _ _) | refine Nat.le_trans ?_ (size_alloc_le _ _) | refine Nat.le_trans ?_ (Nat.le_add_right _ _)))⟩)
theorem spec_IsCabin_any (r : R5) (w : World) : Gv Try.prog 12 #[r.v] w (.bool (isCabin r)) := by
  unfold Gv R5.v
  go_enter Try.func12, Try.ntmps12
  go_wp2_with (go_at_call 39; (first | refine (l5One_any r _).onL ?_ | refine (l5One_any r _).on ?_); intro xq)
  all_goals (go_ret; exact ⟨rfl, (by repeat (with_reducible first | exact Below.refl _ _ | refine bw_later ?_ _ | refine bw_alloc ?_ _ | refine bw_drew ?_ | refine bw_set ?_ (Nat.le_refl _) _ | refine bw_set ?_ ?_ _ | exact Nat.le_refl _ | exact later_size _ _ | refine Nat.le_trans ?_ (later_size _ _) | refine Nat.le_trans ?_ (size_alloc_le _ _) | refine Nat.le_trans ?_ (Nat.le_add_right _ _)))⟩)
theorem law_IsCabin (r : R5) (w : World) : Gv Try.prog 3 #[r.v] w (.bool true) := by
  unfold Gv R5.v
  go_enter Try.func3, Try.ntmps3
  go_wp2_with (first | (go_at_call 13; (first | refine (toCabin_any r _).onL ?_ | refine (toCabin_any r _).on ?_); intro xq; unfold R5.v) | (go_at_call 12; (first | refine (spec_IsCabin_any r _).onL ?_ | refine (spec_IsCabin_any r _).on ?_); intro xq) | (go_at_call 14; (first | refine (impl_IsCabin_any r _).onL ?_ | refine (impl_IsCabin_any r _).on ?_); intro xq))
  all_goals (go_ret; exact ⟨rfl, (by repeat (with_reducible first | exact Below.refl _ _ | refine bw_later ?_ _ | refine bw_alloc ?_ _ | refine bw_drew ?_ | refine bw_set ?_ (Nat.le_refl _) _ | refine bw_set ?_ ?_ _ | exact Nat.le_refl _ | exact later_size _ _ | refine Nat.le_trans ?_ (later_size _ _) | refine Nat.le_trans ?_ (size_alloc_le _ _) | refine Nat.le_trans ?_ (Nat.le_add_right _ _)))⟩)
theorem cabin_bd {r : R5} (h : isCabin r = true) : (1 ≤ r.a ∧ r.a ≤ 99) ∧ (1 ≤ r.b ∧ r.b ≤ 16) ∧ (100 ≤ r.c ∧ r.c ≤ 2000) ∧ (0 ≤ r.d ∧ r.d ≤ 3) ∧ (0 ≤ r.e ∧ r.e ≤ 99999) := by
  simp only [isCabin, Bool.and_eq_true] at h
  obtain ⟨⟨⟨⟨h1, h2⟩, h3⟩, h4⟩, h5⟩ := h
  exact ⟨inB_t h1, inB_t h2, inB_t h3, inB_t h4, inB_t h5⟩
def cabinLoad (r : R5) (p : Int) : Int × Bool := if isCabin r && inB p 0 r.b then (r.c + 80 * p, true) else (0, false)
theorem i_CabinLoad_any (r : R5) (p : Int) (w : World) : Gv Try.prog 16 #[r.v, .int .i64 p] w (.tuple #[.int .i64 (cabinLoad r p).1, .bool (cabinLoad r p).2]) := by
  unfold Gv
  by_cases g0 : isCabin r = true
  · have hb := cabin_bd g0
    obtain ⟨-, ⟨b1, b2⟩, ⟨b3, b4⟩, -, -⟩ := hb
    by_cases g1 : inB p 0 r.b = true
    · obtain ⟨p1, p2⟩ := inB_t g1
      unfold R5.v
      go_enter Try.func16, Try.ntmps16
      go_wp2_with (first | (go_at_call 14; (first | refine (impl_IsCabin_any r _).onL ?_ | refine (impl_IsCabin_any r _).on ?_); intro xq) | (go_at_call 40; (first | refine (within_any _ _ _ _).onL ?_ | refine (within_any _ _ _ _).on ?_); intro xq))
      go_ret2
      exact ⟨by simp [cabinLoad, g0, g1], (by repeat (with_reducible first | exact Below.refl _ _ | refine bw_later ?_ _ | refine bw_alloc ?_ _ | refine bw_drew ?_ | refine bw_set ?_ (Nat.le_refl _) _ | refine bw_set ?_ ?_ _ | exact Nat.le_refl _ | exact later_size _ _ | refine Nat.le_trans ?_ (later_size _ _) | refine Nat.le_trans ?_ (size_alloc_le _ _) | refine Nat.le_trans ?_ (Nat.le_add_right _ _)))⟩
    · unfold R5.v
      go_enter Try.func16, Try.ntmps16
      go_wp2_with (first | (go_at_call 14; (first | refine (impl_IsCabin_any r _).onL ?_ | refine (impl_IsCabin_any r _).on ?_); intro xq) | (go_at_call 40; (first | refine (within_any _ _ _ _).onL ?_ | refine (within_any _ _ _ _).on ?_); intro xq))
      go_ret2
      exact ⟨by simp [cabinLoad, g0, g1], (by repeat (with_reducible first | exact Below.refl _ _ | refine bw_later ?_ _ | refine bw_alloc ?_ _ | refine bw_drew ?_ | refine bw_set ?_ (Nat.le_refl _) _ | refine bw_set ?_ ?_ _ | exact Nat.le_refl _ | exact later_size _ _ | refine Nat.le_trans ?_ (later_size _ _) | refine Nat.le_trans ?_ (size_alloc_le _ _) | refine Nat.le_trans ?_ (Nat.le_add_right _ _)))⟩
  · unfold R5.v
    go_enter Try.func16, Try.ntmps16
    go_wp2_with (first | (go_at_call 14; (first | refine (impl_IsCabin_any r _).onL ?_ | refine (impl_IsCabin_any r _).on ?_); intro xq) | (go_at_call 40; (first | refine (within_any _ _ _ _).onL ?_ | refine (within_any _ _ _ _).on ?_); intro xq))
    go_ret2
    exact ⟨by simp [cabinLoad, g0], (by repeat (with_reducible first | exact Below.refl _ _ | refine bw_later ?_ _ | refine bw_alloc ?_ _ | refine bw_drew ?_ | refine bw_set ?_ (Nat.le_refl _) _ | refine bw_set ?_ ?_ _ | exact Nat.le_refl _ | exact later_size _ _ | refine Nat.le_trans ?_ (later_size _ _) | refine Nat.le_trans ?_ (size_alloc_le _ _) | refine Nat.le_trans ?_ (Nat.le_add_right _ _)))⟩
theorem s_CabinLoad_any (r : R5) (p : Int) (w : World) : Gv Try.prog 15 #[r.v, .int .i64 p] w (.tuple #[.int .i64 (cabinLoad r p).1, .bool (cabinLoad r p).2]) := by
  unfold Gv
  by_cases g0 : isCabin r = true
  · have hb := cabin_bd g0
    obtain ⟨-, ⟨b1, b2⟩, ⟨b3, b4⟩, -, -⟩ := hb
    by_cases g1 : inB p 0 r.b = true
    · obtain ⟨p1, p2⟩ := inB_t g1
      unfold R5.v
      go_enter Try.func15, Try.ntmps15
      go_wp2_with (first | (go_at_call 39; (first | refine (l5One_any r _).onL ?_ | refine (l5One_any r _).on ?_); intro xq) | (go_at_call 41; (first | refine (in_any _ _ _ _).onL ?_ | refine (in_any _ _ _ _).on ?_); intro xq))
      go_ret2
      exact ⟨by simp [cabinLoad, g0, g1], (by repeat (with_reducible first | exact Below.refl _ _ | refine bw_later ?_ _ | refine bw_alloc ?_ _ | refine bw_drew ?_ | refine bw_set ?_ (Nat.le_refl _) _ | refine bw_set ?_ ?_ _ | exact Nat.le_refl _ | exact later_size _ _ | refine Nat.le_trans ?_ (later_size _ _) | refine Nat.le_trans ?_ (size_alloc_le _ _) | refine Nat.le_trans ?_ (Nat.le_add_right _ _)))⟩
    · unfold R5.v
      go_enter Try.func15, Try.ntmps15
      go_wp2_with (first | (go_at_call 39; (first | refine (l5One_any r _).onL ?_ | refine (l5One_any r _).on ?_); intro xq) | (go_at_call 41; (first | refine (in_any _ _ _ _).onL ?_ | refine (in_any _ _ _ _).on ?_); intro xq))
      go_ret2
      exact ⟨by simp [cabinLoad, g0, g1], (by repeat (with_reducible first | exact Below.refl _ _ | refine bw_later ?_ _ | refine bw_alloc ?_ _ | refine bw_drew ?_ | refine bw_set ?_ (Nat.le_refl _) _ | refine bw_set ?_ ?_ _ | exact Nat.le_refl _ | exact later_size _ _ | refine Nat.le_trans ?_ (later_size _ _) | refine Nat.le_trans ?_ (size_alloc_le _ _) | refine Nat.le_trans ?_ (Nat.le_add_right _ _)))⟩
  · unfold R5.v
    go_enter Try.func15, Try.ntmps15
    go_wp2_with (first | (go_at_call 39; (first | refine (l5One_any r _).onL ?_ | refine (l5One_any r _).on ?_); intro xq) | (go_at_call 41; (first | refine (in_any _ _ _ _).onL ?_ | refine (in_any _ _ _ _).on ?_); intro xq))
    go_ret2
    exact ⟨by simp [cabinLoad, g0], (by repeat (with_reducible first | exact Below.refl _ _ | refine bw_later ?_ _ | refine bw_alloc ?_ _ | refine bw_drew ?_ | refine bw_set ?_ (Nat.le_refl _) _ | refine bw_set ?_ ?_ _ | exact Nat.le_refl _ | exact later_size _ _ | refine Nat.le_trans ?_ (later_size _ _) | refine Nat.le_trans ?_ (size_alloc_le _ _) | refine Nat.le_trans ?_ (Nat.le_add_right _ _)))⟩
theorem law_CabinLoad (r : R5) (p : Int) (w : World) (_ : I64 p) : Gv Try.prog 4 #[r.v, .int .i64 p] w (.bool true) := by
  unfold Gv R5.v
  go_enter Try.func4, Try.ntmps4
  go_wp2_with (first | (go_at_call 13; (first | refine (toCabin_any r _).onL ?_ | refine (toCabin_any r _).on ?_); intro xq; unfold R5.v) | (go_at_call 15; (first | refine (s_CabinLoad_any r p _).onL ?_ | refine (s_CabinLoad_any r p _).on ?_); intro xq) | (go_at_call 16; (first | refine (i_CabinLoad_any r p _).onL ?_ | refine (i_CabinLoad_any r p _).on ?_); intro xq))
  all_goals (go_ret; exact ⟨rfl, (by repeat (with_reducible first | exact Below.refl _ _ | refine bw_later ?_ _ | refine bw_alloc ?_ _ | refine bw_drew ?_ | refine bw_set ?_ (Nat.le_refl _) _ | refine bw_set ?_ ?_ _ | exact Nat.le_refl _ | exact later_size _ _ | refine Nat.le_trans ?_ (later_size _ _) | refine Nat.le_trans ?_ (size_alloc_le _ _) | refine Nat.le_trans ?_ (Nat.le_add_right _ _)))⟩)
end Go.Proofs.Ytnemamokjikdeaa
