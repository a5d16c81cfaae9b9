/- The two functions that ask whether a number lies within its bounds. -/
import Derived.Test.YtagplkdeallbmaaRows
import Derived.Test.YtagplkdeallbmaaLib
namespace Go.Proofs.Ytagplkdeallbmaa
open Go.RowKit
theorem within_any (n lo hi : Int) (w : World) : Gv Try.prog 44 #[.int .i64 n, .int .i64 lo, .int .i64 hi] w (.bool (inB n lo hi)) := by
  unfold Gv inB
  go_enter Try.func44, Try.ntmps44
  go_wp2
  · go_ret; exact ⟨ret_bool (by simp [*]), Below.refl _ _⟩
  · go_ret; exact ⟨ret_bool (by simp; omega), Below.refl _ _⟩
theorem in_any (n lo hi : Int) (w : World) : Gv Try.prog 45 #[.int .i64 n, .int .i64 lo, .int .i64 hi] w (.bool (inB n lo hi)) := by
  unfold Gv inB
  go_enter Try.func45, Try.ntmps45
  go_wp2
  · go_ret; exact ⟨ret_bool (by simp [*]), Below.refl _ _⟩
  · go_ret; exact ⟨ret_bool (by simp; omega), Below.refl _ _⟩
end Go.Proofs.Ytagplkdeallbmaa
