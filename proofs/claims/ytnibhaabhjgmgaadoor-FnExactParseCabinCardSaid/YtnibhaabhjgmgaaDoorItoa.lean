/- A number as text: the library's function, as the shelf tells it. -/
import Derived.Test.YtnibhaabhjgmgaaDoorNum
import Derived.Test.YtnibhaabhjgmgaaDoorTab
import Derived.Test.YtnibhaabhjgmgaaDoorShelfItoa
namespace Go.Proofs.YtnibhaabhjgmgaaDoor
open Go.RowKit
theorem itoa_any (n : Int) (h0 : -9223372036854775808 ≤ n) (h1 : n ≤ 9223372036854775807) (w : World) (ht : Tab w) : Gv Tryd.prog 27 #[.int .i64 n] w (.string (numB n)) :=
  Calls.mono (Tryd.strconv_Itoa n h0 h1 w ht) fun _ _ ⟨he, k, os, hw⟩ => ⟨he, by subst hw; exact Lib.below_grow _ w (Nat.le_refl _) k os⟩
end Go.Proofs.YtnibhaabhjgmgaaDoor
