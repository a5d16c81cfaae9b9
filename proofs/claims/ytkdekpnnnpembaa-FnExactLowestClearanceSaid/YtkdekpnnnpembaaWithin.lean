/- The two functions that ask whether a number lies within its bounds. -/
import Derived.Test.YtkdekpnnnpembaaRows
import Derived.Test.YtkdekpnnnpembaaLib
namespace Go.Proofs.Ytkdekpnnnpembaa
open Go.RowKit
theorem within_any (n lo hi : Int) (w : World) : Gv Try.prog 38 #[.int .i64 n, .int .i64 lo, .int .i64 hi] w (.bool (inB n lo hi)) := by
  unfold Gv inB
  go_enter Try.func38, Try.ntmps38
  go_wp2
  · go_ret; exact ⟨ret_bool (by simp [*]), Below.refl _ _⟩
  · go_ret; exact ⟨ret_bool (by simp; omega), Below.refl _ _⟩
theorem in_any (n lo hi : Int) (w : World) : Gv Try.prog 46 #[.int .i64 n, .int .i64 lo, .int .i64 hi] w (.bool (inB n lo hi)) := by
  unfold Gv inB
  go_enter Try.func46, Try.ntmps46
  go_wp2
  · go_ret; exact ⟨ret_bool (by simp [*]), Below.refl _ _⟩
  · go_ret; exact ⟨ret_bool (by simp; omega), Below.refl _ _⟩
end Go.Proofs.Ytkdekpnnnpembaa
