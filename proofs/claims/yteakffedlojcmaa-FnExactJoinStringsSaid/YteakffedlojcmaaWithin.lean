/- The two functions that ask whether a number lies within its bounds. -/
import Derived.Test.YteakffedlojcmaaRows
import Derived.Test.YteakffedlojcmaaLib
namespace Go.Proofs.Yteakffedlojcmaa
open Go.RowKit
end Go.Proofs.Yteakffedlojcmaa
