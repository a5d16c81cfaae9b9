/- A single grip: its validity, pull and holding. -/
import Derived.Test.YtfchkhpllimkeaaWithin
namespace Go.Proofs.Ytfchkhpllimkeaa
open Go.RowKit
def isGrip (r : R5) : Bool := inB r.a 1 99 && inB r.b 0 5000 && inB r.c 0 99 && inB r.d 0 99999 && inB r.e 0 9999
theorem l7Day_any (n : Int) (w : World) : Gv Try.prog 34 #[.int .i64 n] w (.bool (inB n 0 9999)) := by
  unfold Gv
  go_enter Try.func34, Try.ntmps34
  go_wp2_with (go_at_call 33; (first | refine (in_any _ _ _ _).onL ?_ | refine (in_any _ _ _ _).on ?_); intro x)
  go_ret
  exact ⟨rfl, later_below _ _⟩
theorem l7One_any (r : R5) (w : World) : Gv Try.prog 22 #[r.v] w (.bool (isGrip r)) := by
  unfold Gv R5.v isGrip
  go_enter Try.func22, Try.ntmps22
  go_wp2_with (first | (go_at_call 33; (first | refine (in_any _ _ _ _).onL ?_ | refine (in_any _ _ _ _).on ?_); intro x) | (go_at_call 34; (first | refine (l7Day_any _ _).onL ?_ | refine (l7Day_any _ _).on ?_); intro x))
  all_goals (go_ret; exact ⟨ret_bool (by simp [*]), (by repeat (first | exact Below.refl _ _ | refine bw_later ?_ _ | refine bw_alloc ?_ _ | refine bw_drew ?_))⟩)
theorem impl_IsGrip_any (r : R5) (w : World) : Gv Try.prog 10 #[r.v] w (.bool (isGrip r)) := by
  unfold Gv R5.v isGrip
  go_enter Try.func10, Try.ntmps10
  go_wp2_with (go_at_call 23; (first | refine (within_any _ _ _ _).onL ?_ | refine (within_any _ _ _ _).on ?_); intro x)
  all_goals (go_ret; exact ⟨ret_bool (by simp [*]), (by repeat (first | exact Below.refl _ _ | refine bw_later ?_ _ | refine bw_alloc ?_ _ | refine bw_drew ?_))⟩)
theorem spec_IsGrip_any (r : R5) (w : World) : Gv Try.prog 8 #[r.v] w (.bool (isGrip r)) := by
  unfold Gv R5.v
  go_enter Try.func8, Try.ntmps8
  go_wp2_with (go_at_call 22; (first | refine (l7One_any r _).onL ?_ | refine (l7One_any r _).on ?_); intro x)
  all_goals (go_ret; exact ⟨rfl, (by repeat (first | exact Below.refl _ _ | refine bw_later ?_ _ | refine bw_alloc ?_ _ | refine bw_drew ?_))⟩)
theorem toGrip_any (r : R5) (w : World) : Gv Try.prog 9 #[r.v] w r.v := by
  unfold Gv R5.v
  go_enter Try.func9, Try.ntmps9
  go_wp2
  exact bodyPost_ret (by simp [results, Try.results9, go_sem]) rfl ⟨rfl, (by repeat (first | exact Below.refl _ _ | refine bw_later ?_ _ | refine bw_alloc ?_ _ | refine bw_drew ?_))⟩
theorem law_IsGrip (r : R5) (w : World) : Gv Try.prog 3 #[r.v] w (.bool true) := by
  unfold Gv R5.v
  go_enter Try.func3, Try.ntmps3
  go_wp2_with (first | (go_at_call 9; (first | refine (toGrip_any r _).onL ?_ | refine (toGrip_any r _).on ?_); intro x; unfold R5.v) | (go_at_call 8; (first | refine (spec_IsGrip_any r _).onL ?_ | refine (spec_IsGrip_any r _).on ?_); intro x) | (go_at_call 10; (first | refine (impl_IsGrip_any r _).onL ?_ | refine (impl_IsGrip_any r _).on ?_); intro x))
  all_goals (go_ret; exact ⟨rfl, (by repeat (first | exact Below.refl _ _ | refine bw_later ?_ _ | refine bw_alloc ?_ _ | refine bw_drew ?_))⟩)
end Go.Proofs.Ytfchkhpllimkeaa
