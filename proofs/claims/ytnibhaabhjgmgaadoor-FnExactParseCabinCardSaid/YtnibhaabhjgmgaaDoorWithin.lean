/- The two functions that ask whether a number lies within its bounds. -/
import Derived.Test.YtnibhaabhjgmgaaDoorRows
import Derived.Test.YtnibhaabhjgmgaaDoorLib
namespace Go.Proofs.YtnibhaabhjgmgaaDoor
open Go.RowKit
theorem within_any (n lo hi : Int) (w : World) : Gv Tryd.prog 26 #[.int .i64 n, .int .i64 lo, .int .i64 hi] w (.bool (inB n lo hi)) := by
  unfold Gv inB
  go_enter Tryd.func26, Tryd.ntmps26
  go_wp2
  · go_ret; exact ⟨ret_bool (by simp [*]), Below.refl _ _⟩
  · go_ret; exact ⟨ret_bool (by simp; omega), Below.refl _ _⟩
theorem in_any (n lo hi : Int) (w : World) : Gv Tryd.prog 23 #[.int .i64 n, .int .i64 lo, .int .i64 hi] w (.bool (inB n lo hi)) := by
  unfold Gv inB
  go_enter Tryd.func23, Tryd.ntmps23
  go_wp2
  · go_ret; exact ⟨ret_bool (by simp [*]), Below.refl _ _⟩
  · go_ret; exact ⟨ret_bool (by simp; omega), Below.refl _ _⟩
end Go.Proofs.YtnibhaabhjgmgaaDoor
