/- The two functions that ask whether a number lies within its bounds. -/
import Derived.Test.YteakffedlojcmaaDoorRows
import Derived.Test.YteakffedlojcmaaDoorLib
namespace Go.Proofs.YteakffedlojcmaaDoor
open Go.RowKit
theorem within_any (n lo hi : Int) (w : World) : Gv Tryd.prog 34 #[.int .i64 n, .int .i64 lo, .int .i64 hi] w (.bool (inB n lo hi)) := by
  unfold Gv inB
  go_enter Tryd.func34, Tryd.ntmps34
  go_wp2
  · go_ret; exact ⟨ret_bool (by simp [*]), Below.refl _ _⟩
  · go_ret; exact ⟨ret_bool (by simp; omega), Below.refl _ _⟩
theorem in_any (n lo hi : Int) (w : World) : Gv Tryd.prog 32 #[.int .i64 n, .int .i64 lo, .int .i64 hi] w (.bool (inB n lo hi)) := by
  unfold Gv inB
  go_enter Tryd.func32, Tryd.ntmps32
  go_wp2
  · go_ret; exact ⟨ret_bool (by simp [*]), Below.refl _ _⟩
  · go_ret; exact ⟨ret_bool (by simp; omega), Below.refl _ _⟩
end Go.Proofs.YteakffedlojcmaaDoor
