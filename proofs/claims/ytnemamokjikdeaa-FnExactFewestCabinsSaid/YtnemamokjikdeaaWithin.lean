/- The two functions that ask whether a number lies within its bounds. -/
import Derived.Test.YtnemamokjikdeaaRows
import Derived.Test.YtnemamokjikdeaaLib
namespace Go.Proofs.Ytnemamokjikdeaa
open Go.RowKit
theorem within_any (n lo hi : Int) (w : World) : Gv Try.prog 40 #[.int .i64 n, .int .i64 lo, .int .i64 hi] w (.bool (inB n lo hi)) := by
  unfold Gv inB
  go_enter Try.func40, Try.ntmps40
  go_wp2
  · go_ret; exact ⟨ret_bool (by simp [*]), Below.refl _ _⟩
  · go_ret; exact ⟨ret_bool (by simp; omega), Below.refl _ _⟩
theorem in_any (n lo hi : Int) (w : World) : Gv Try.prog 41 #[.int .i64 n, .int .i64 lo, .int .i64 hi] w (.bool (inB n lo hi)) := by
  unfold Gv inB
  go_enter Try.func41, Try.ntmps41
  go_wp2
  · go_ret; exact ⟨ret_bool (by simp [*]), Below.refl _ _⟩
  · go_ret; exact ⟨ret_bool (by simp; omega), Below.refl _ _⟩
end Go.Proofs.Ytnemamokjikdeaa
