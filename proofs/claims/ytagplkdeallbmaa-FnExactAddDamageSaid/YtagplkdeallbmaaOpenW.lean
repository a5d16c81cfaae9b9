/- A struct of three numbers by value, opened: the last number is in its bounds. -/
import Derived.Test.YtagplkdeallbmaaOpen
namespace Go.Proofs.Ytagplkdeallbmaa
open Go.RowKit Go.WideShapes Go.ChangeShapes Go.ChangeAt Go.Deep Go.Joins
section
variable {H : Type} {enc : TypeId × Value → H} {P : Program} {w : World} {base : Nat} {spare : Nat → Bool} {held : Bool}
theorem open_R3w {r : Reach} {b0 : Nat} {t : TypeId} {f0 f1 f2 : Field} {v : Value} {d : DataW H} {p : List MemPlace} (hs : P.underlying t = some (.struct #[f0, f1, f2])) (h0 : P.underlying f0.type = some (.int .i64)) (h1 : P.underlying f1.type = some (.int .i64)) (h2 : P.underlying f2.type = some (.int .i64)) (hone : oneCellFields P #[f0, f1, f2] = true) (hC : P.cellsOf t = 3)
    (hv : Value.okWide P w r b0 t v) (h : DataW.Trod enc P w base spare held t v d p) : ∃ r : R3, v = r.v ∧ I64 r.c := by
  obtain ⟨l, n, rfl, hl, hg⟩ := open_agg hs hone hC hv h
  match l, hl with
  | [c0, c1, c2], _ =>
    obtain ⟨c, y, e, ht⟩ := hg 0 f0 rfl
    obtain ⟨x0, hx⟩ := int_cell h0 ht
    obtain rfl : c0 = c := by simpa using e
    subst hx
    obtain ⟨c, y, e, ht⟩ := hg 1 f1 rfl
    obtain ⟨x1, hx⟩ := int_cell h1 ht
    obtain rfl : c1 = c := by simpa using e
    subst hx
    obtain ⟨c, y, e, ht⟩ := hg 2 f2 rfl
    obtain ⟨x2, hx, _, hw⟩ := DataW.trod_int h2 ht
    obtain rfl : c2 = c := by simpa using e
    have hx' : c2 = .int .i64 x2 := by simpa using hx
    subst hx'
    exact ⟨⟨x0, x1, x2⟩, rfl, i64_of_wf hw⟩
end
end Go.Proofs.Ytagplkdeallbmaa
