/- Which string is less. -/
import Derived.Test.YteakffedlojcmaaRows
import Derived.Test.YteakffedlojcmaaLib
namespace Go.Proofs.Yteakffedlojcmaa
open Go.RowKit
def lessS (a b : ByteArray) : Bool := Op.bytesLess a.toList b.toList
theorem i_Less_any (a b : ByteArray) (w : World) : Gv Try.prog 8 #[.string a, .string b] w (.bool (lessS a b)) := by
  unfold Gv
  go_enter Try.func8, Try.ntmps8
  go_wp2
  all_goals (go_ret; exact ⟨rfl, Below.refl _ _⟩)
theorem s_Less_any (a b : ByteArray) (w : World) : Gv Try.prog 7 #[.string a, .string b] w (.bool (lessS a b)) := by
  unfold Gv
  go_enter Try.func7, Try.ntmps7
  go_wp2
  all_goals (go_ret; exact ⟨rfl, Below.refl _ _⟩)
theorem law_LessString (a b : ByteArray) (w : World) (_h0 : a.size ≤ maxLen) (_h1 : b.size ≤ maxLen) : Gv Try.prog 4 #[.string a, .string b] w (.bool true) := by
  unfold Gv
  go_enter Try.func4, Try.ntmps4
  go_wp2_with (first | (go_at_call 7; (first | refine (s_Less_any _ _ _).onL ?_ | refine (s_Less_any _ _ _).on ?_); intro xq) | (go_at_call 8; (first | refine (i_Less_any _ _ _).onL ?_ | refine (i_Less_any _ _ _).on ?_); intro xq))
  all_goals (go_ret; exact ⟨rfl, (by repeat (with_reducible first | exact Below.refl _ _ | refine bw_later ?_ _ | refine bw_alloc ?_ _ | refine bw_drew ?_ | refine bw_set ?_ (Nat.le_refl _) _ | refine bw_set ?_ ?_ _ | exact Nat.le_refl _ | exact later_size _ _ | refine Nat.le_trans ?_ (later_size _ _) | refine Nat.le_trans ?_ (size_alloc_le _ _) | refine Nat.le_trans ?_ (Nat.le_add_right _ _)))⟩)
end Go.Proofs.Yteakffedlojcmaa
