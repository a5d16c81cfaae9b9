/- The two sentinels, out of the row's condition. -/
import Derived.Test.YtnibhaabhjgmgaaDoorErrs
import Derived.Test.YtnibhaabhjgmgaaDoorDoor
import Derived.Stop.LaidErr
namespace Go.Proofs.YtnibhaabhjgmgaaDoor
open Go.RowKit
set_option maxRecDepth 100000
theorem star_name : "*" ++ "errors.errorString" = "*errors.errorString" := by decide
theorem row_name (u : TypeId) (h : Tryd.prog.typeName? 3 u = some "*errors.errorString") : u = 96 :=
  typeName_ptr_named (nm := "errors.errorString") (by rw [star_name]; kernel_rfl) (by kernel_rfl) (by decide) u (by rw [star_name]; exact h)
theorem errs_of_laid {l : List (String × DataW Unit)} {W : World} (h : laidMetH Tryd.prog l W)
    (h1 : (l.filter fun x => x.1 == "strconv.ErrSyntax") = [("strconv.ErrSyntax", Rows.laid_strconv_ErrSyntax)]) (h2 : (l.filter fun x => x.1 == "strconv.ErrRange") = [("strconv.ErrRange", Rows.laid_strconv_ErrRange)]) : Ers W := by
  have k1 := h.filter fun x => x.1 == "strconv.ErrSyntax"
  have k2 := h.filter fun x => x.1 == "strconv.ErrRange"
  rw [h1, MakeChecks.laidMetH_plain _ _ _ (by kernel_rfl)] at k1
  rw [h2, MakeChecks.laidMetH_plain _ _ _ (by kernel_rfl)] at k2
  obtain ⟨a1, s1, v1, -, -, -⟩ := laid_sentinel (P := Tryd.prog) (g := 2) (ti := 50) (tp := 96) (te := 98) (ts := 9) k1 (by kernel_rfl) (by kernel_rfl) Tryd.underlying50 row_name Tryd.underlying96 Tryd.underlying98 rfl rfl Tryd.underlying9 (by kernel_rfl) (by kernel_rfl)
  obtain ⟨a2, s2, v2, -, -, -⟩ := laid_sentinel (P := Tryd.prog) (g := 3) (ti := 50) (tp := 96) (te := 98) (ts := 9) k2 (by kernel_rfl) (by kernel_rfl) Tryd.underlying50 row_name Tryd.underlying96 Tryd.underlying98 rfl rfl Tryd.underlying9 (by kernel_rfl) (by kernel_rfl)
  exact ⟨⟨_, _, v1⟩, _, _, v2⟩
end Go.Proofs.YtnibhaabhjgmgaaDoor
