/- The two functions that ask whether a number lies within its bounds. -/
import Derived.Test.YtfchkhpllimkeaaRows
import Derived.Test.YtfchkhpllimkeaaLib
namespace Go.Proofs.Ytfchkhpllimkeaa
open Go.RowKit
theorem within_any (n lo hi : Int) (w : World) : Gv Try.prog 23 #[.int .i64 n, .int .i64 lo, .int .i64 hi] w (.bool (inB n lo hi)) := by
  unfold Gv inB
  go_enter Try.func23, Try.ntmps23
  go_wp2
  · go_ret; exact ⟨ret_bool (by simp [*]), Below.refl _ _⟩
  · go_ret; exact ⟨ret_bool (by simp; omega), Below.refl _ _⟩
theorem in_any (n lo hi : Int) (w : World) : Gv Try.prog 33 #[.int .i64 n, .int .i64 lo, .int .i64 hi] w (.bool (inB n lo hi)) := by
  unfold Gv inB
  go_enter Try.func33, Try.ntmps33
  go_wp2
  · go_ret; exact ⟨ret_bool (by simp [*]), Below.refl _ _⟩
  · go_ret; exact ⟨ret_bool (by simp; omega), Below.refl _ _⟩
end Go.Proofs.Ytfchkhpllimkeaa
