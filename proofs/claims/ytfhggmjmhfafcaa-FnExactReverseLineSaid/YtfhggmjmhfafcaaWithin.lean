/- The two functions that ask whether a number lies within its bounds. -/
import Derived.Test.YtfhggmjmhfafcaaRows
import Derived.Test.YtfhggmjmhfafcaaLib
namespace Go.Proofs.Ytfhggmjmhfafcaa
open Go.RowKit
theorem within_any (n lo hi : Int) (w : World) : Gv Try.prog 37 #[.int .i64 n, .int .i64 lo, .int .i64 hi] w (.bool (inB n lo hi)) := by
  unfold Gv inB
  go_enter Try.func37, Try.ntmps37
  go_wp2
  · go_ret; exact ⟨ret_bool (by simp [*]), Below.refl _ _⟩
  · go_ret; exact ⟨ret_bool (by simp; omega), Below.refl _ _⟩
theorem in_any (n lo hi : Int) (w : World) : Gv Try.prog 54 #[.int .i64 n, .int .i64 lo, .int .i64 hi] w (.bool (inB n lo hi)) := by
  unfold Gv inB
  go_enter Try.func54, Try.ntmps54
  go_wp2
  · go_ret; exact ⟨ret_bool (by simp [*]), Below.refl _ _⟩
  · go_ret; exact ⟨ret_bool (by simp; omega), Below.refl _ _⟩
end Go.Proofs.Ytfhggmjmhfafcaa
