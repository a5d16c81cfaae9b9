/- The program's constants. -/
import Derived.Test.YteakffedlojcmaaRows
import Derived.Test.YteakffedlojcmaaLib
namespace Go.Proofs.Yteakffedlojcmaa
open Go.RowKit
theorem law_Constants (w : World) : Gv Try.prog 3 #[] w (.bool true) := by
  unfold Gv
  go_enter Try.func3, Try.ntmps3
  go_wp2
  all_goals (go_ret; exact ⟨rfl, Below.refl _ _⟩)
end Go.Proofs.Yteakffedlojcmaa
