/- The table of powers of ten, as the worlds on the way hold it. No program's walk in sight. -/
import Derived.Test.YtnibhaabhjgmgaaDoorRows
import Derived.Test.YtnibhaabhjgmgaaDoorLib
import Derived.Lib.LaidTab
import Derived.Lib.AppendIntMem
import Derived.Lib.ItoaNum
namespace Go.Proofs.YtnibhaabhjgmgaaDoor
open Go.RowKit
def Tab (w : World) : Prop := Lib.TabIs Tryd.prog w "internal/strconv.uint64pow10" .u64 Lib.pow10Tab
theorem Tab.keep {w w' : World} (h : Tab w) (hb : Below w.heap.size w w') : Tab w' := Lib.tabBelow_of_tabIs h w' hb
theorem Tab.later {w : World} (h : Tab w) (x : Lat w) : Tab (later w x) := h.keep (later_below w x)
theorem Tab.alloc {w : World} (h : Tab w) (o : Obj) : Tab (w.alloc o) := h.keep (bw_alloc (Below.refl _ _) o)
theorem Tab.set {w w0 : World} (h : Tab w0) (hb : Below w0.heap.size w0 w) : Tab w := h.keep hb
end Go.Proofs.YtnibhaabhjgmgaaDoor
