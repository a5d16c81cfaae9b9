/- A variable of the library's that holds some number: as the worlds on the way hold it. -/
import Derived.Test.YtnibhaabhjgmgaaDoorRows
import Derived.Test.YtnibhaabhjgmgaaDoorLib
import Derived.Shelf.Vars
namespace Go.Proofs.YtnibhaabhjgmgaaDoor
open Go.RowKit
def Mx (w : World) : Prop := ∃ m, w.cell? ⟨1, 0, none⟩ = some (.int .i64 m)
theorem Mx.keep {w w' : World} (h : Mx w) (hb : Below w.heap.size w w') : Mx w' := by
  obtain ⟨m, hm⟩ := h
  exact ⟨m, (hb.cell (p := ⟨_, _, none⟩) (World.block_lt_of_cell? w _ hm)).trans hm⟩
theorem Mx.later {w : World} (h : Mx w) (x : Lat w) : Mx (later w x) := h.keep (later_below w x)
theorem Mx.alloc {w : World} (h : Mx w) (o : Obj) : Mx (w.alloc o) := h.keep (bw_alloc (Below.refl _ _) o)
set_option maxRecDepth 100000 in
theorem mx_of_shape {w : World} (h : w.ShapedOpen Tryd.prog) : Mx w :=
  cell_of_shapedOpen_int (zero := #[.int .i64 0]) (t := 3) h (of_decide_eq_true (by kernel_rfl)) (by kernel_rfl) rfl (by kernel_rfl) (by kernel_rfl) Tryd.underlying3
theorem below_drewN {a w : World} (h : Below a.heap.size a w) (n : Nat) : Below a.heap.size a (w.drewN n) := h.trans ⟨rfl, rfl, rfl, Nat.le_refl _, fun _ _ => rfl⟩
end Go.Proofs.YtnibhaabhjgmgaaDoor
