/- Arguments opened: structs by value and slices of structs, every field one cell, an integer or a bool. No program in sight. -/
import Derived.Test.YtfchkhpllimkeaaPost
import Derived.Test.YtfchkhpllimkeaaLib
namespace Go.Proofs.Ytfchkhpllimkeaa
open Go.RowKit Go.WideShapes Go.ChangeShapes Go.ChangeAt Go.Deep Go.Joins
section
variable {H : Type} {enc : TypeId × Value → H} {P : Program} {w : World} {base : Nat} {spare : Nat → Bool} {held : Bool}
theorem add_off (g off n : Nat) : (⟨g, off, none⟩ : Addr).add n = ⟨g, off + n, none⟩ := by
  unfold Addr.add
  split <;> simp_all
/-- An address whose cell is known names no spot inside a cell. -/
theorem spot_none {a : Addr} {v : Value} (h : w.cell? a = some v) : a = ⟨a.block, a.off, none⟩ := by
  cases a with
  | mk b o s =>
    cases s with
    | none => rfl
    | some x =>
      unfold World.cell? at h
      split at h <;> simp at h
/-- An integer's cell; its number is in its bounds. -/
theorem int_cell {t : TypeId} {n : Nat} {v : Value} {y : DataW H × List MemPlace} (ht : P.underlying t = some (.int .i64)) (h : DataW.trod enc P w base spare held n t [v] = some y) : ∃ x : Int, v = .int .i64 x := by
  obtain ⟨x, hx, _⟩ := DataW.trod_int ht h
  exact ⟨x, by simpa using hx⟩
theorem bool_cell {t : TypeId} {n : Nat} {v : Value} {y : DataW H × List MemPlace} (ht : P.underlying t = some .bool) (h : DataW.trod enc P w base spare held n t [v] = some y) : ∃ x : Bool, v = .bool x := by
  obtain ⟨x, hx, _⟩ := DataW.trod_bool ht h
  exact ⟨x, by simpa using hx⟩
theorem i64_of_wf {x : Int} (h : (Lit.int .i64 x).wf = true) : I64 x := by
  simp [Lit.wf, IntKind.min, IntKind.max, IntKind.signed, IntKind.bits] at h
  exact ⟨by omega, by omega⟩
/-- A struct by value, each field one cell: each field's reading. -/
theorem open_agg {r : Reach} {b0 : Nat} {t : TypeId} {fs : Array Field} {v : Value} {d : DataW H} {p : List MemPlace} (hs : P.underlying t = some (.struct fs)) (hone : oneCellFields P fs = true) (hC : P.cellsOf t = fs.size)
    (hv : Value.okWide P w r b0 t v) (h : DataW.Trod enc P w base spare held t v d p) :
    ∃ (l : List Value) (n : Nat), v = .agg ⟨l⟩ ∧ l.length = fs.size ∧ ∀ (i : Nat) (f : Field), fs[i]? = some f → ∃ c y, l[i]? = some c ∧ DataW.trod enc P w base spare held n f.type [c] = some y := by
  obtain ⟨cs, rfl, hsz⟩ := okWide_struct hs hv
  obtain ⟨l⟩ := cs
  obtain ⟨fuel, hf⟩ := h
  obtain ⟨xs, n, _, hx, _, hlen, hg⟩ := DataW.trod_struct hs hf
  refine ⟨l, n, rfl, by simpa using hsz.trans hC, fun i f hi => ?_⟩
  obtain ⟨o0, k0⟩ := hone_of hone i f hi
  have hil : i < fs.size := (Array.getElem?_eq_some_iff.1 hi).1
  have hl : i < l.length := by
    have : l.length = fs.size := by simpa using hsz.trans hC
    omega
  have h1 := hg i f hi
  rw [o0, k0] at h1
  have h2 : ((Value.agg ⟨l⟩).cells.toList.drop i).take 1 = [l[i]] := by
    rw [show (Value.agg ⟨l⟩).cells = ⟨l⟩ from rfl, List.drop_eq_getElem_cons (by simpa using hl)]
    rfl
  rw [h2] at h1
  exact ⟨l[i], xs[i]'(by omega), List.getElem?_eq_getElem hl, by rw [h1]; exact List.getElem?_eq_getElem (by omega)⟩
theorem open_R2 {r : Reach} {b0 : Nat} {t : TypeId} {f0 f1 : Field} {v : Value} {d : DataW H} {p : List MemPlace} (hs : P.underlying t = some (.struct #[f0, f1])) (h0 : P.underlying f0.type = some (.int .i64)) (h1 : P.underlying f1.type = some (.int .i64)) (hone : oneCellFields P #[f0, f1] = true) (hC : P.cellsOf t = 2)
    (hv : Value.okWide P w r b0 t v) (h : DataW.Trod enc P w base spare held t v d p) : ∃ r : R2, v = r.v := by
  obtain ⟨l, n, rfl, hl, hg⟩ := open_agg hs hone hC hv h
  match l, hl with
  | [c0, c1], _ =>
    obtain ⟨c, y, e, ht⟩ := hg 0 f0 rfl
    obtain ⟨x0, hx⟩ := int_cell h0 ht
    obtain rfl : c0 = c := by simpa using e
    subst hx
    obtain ⟨c, y, e, ht⟩ := hg 1 f1 rfl
    obtain ⟨x1, hx⟩ := int_cell h1 ht
    obtain rfl : c1 = c := by simpa using e
    subst hx
    exact ⟨⟨x0, x1⟩, rfl⟩
theorem open_R3 {r : Reach} {b0 : Nat} {t : TypeId} {f0 f1 f2 : Field} {v : Value} {d : DataW H} {p : List MemPlace} (hs : P.underlying t = some (.struct #[f0, f1, f2])) (h0 : P.underlying f0.type = some (.int .i64)) (h1 : P.underlying f1.type = some (.int .i64)) (h2 : P.underlying f2.type = some (.int .i64)) (hone : oneCellFields P #[f0, f1, f2] = true) (hC : P.cellsOf t = 3)
    (hv : Value.okWide P w r b0 t v) (h : DataW.Trod enc P w base spare held t v d p) : ∃ r : R3, v = r.v := by
  obtain ⟨l, n, rfl, hl, hg⟩ := open_agg hs hone hC hv h
  match l, hl with
  | [c0, c1, c2], _ =>
    obtain ⟨c, y, e, ht⟩ := hg 0 f0 rfl
    obtain ⟨x0, hx⟩ := int_cell h0 ht
    obtain rfl : c0 = c := by simpa using e
    subst hx
    obtain ⟨c, y, e, ht⟩ := hg 1 f1 rfl
    obtain ⟨x1, hx⟩ := int_cell h1 ht
    obtain rfl : c1 = c := by simpa using e
    subst hx
    obtain ⟨c, y, e, ht⟩ := hg 2 f2 rfl
    obtain ⟨x2, hx⟩ := int_cell h2 ht
    obtain rfl : c2 = c := by simpa using e
    subst hx
    exact ⟨⟨x0, x1, x2⟩, rfl⟩
theorem open_Sup {r : Reach} {b0 : Nat} {t : TypeId} {f0 f1 f2 : Field} {v : Value} {d : DataW H} {p : List MemPlace} (hs : P.underlying t = some (.struct #[f0, f1, f2])) (h0 : P.underlying f0.type = some (.int .i64)) (h1 : P.underlying f1.type = some (.int .i64)) (h2 : P.underlying f2.type = some .bool) (hone : oneCellFields P #[f0, f1, f2] = true) (hC : P.cellsOf t = 3)
    (hv : Value.okWide P w r b0 t v) (h : DataW.Trod enc P w base spare held t v d p) : ∃ r : Sup, v = r.v := by
  obtain ⟨l, n, rfl, hl, hg⟩ := open_agg hs hone hC hv h
  match l, hl with
  | [c0, c1, c2], _ =>
    obtain ⟨c, y, e, ht⟩ := hg 0 f0 rfl
    obtain ⟨x0, hx⟩ := int_cell h0 ht
    obtain rfl : c0 = c := by simpa using e
    subst hx
    obtain ⟨c, y, e, ht⟩ := hg 1 f1 rfl
    obtain ⟨x1, hx⟩ := int_cell h1 ht
    obtain rfl : c1 = c := by simpa using e
    subst hx
    obtain ⟨c, y, e, ht⟩ := hg 2 f2 rfl
    obtain ⟨x2, hx⟩ := bool_cell h2 ht
    obtain rfl : c2 = c := by simpa using e
    subst hx
    exact ⟨⟨x0, x1, x2⟩, rfl⟩
theorem open_R5 {r : Reach} {b0 : Nat} {t : TypeId} {f0 f1 f2 f3 f4 : Field} {v : Value} {d : DataW H} {p : List MemPlace} (hs : P.underlying t = some (.struct #[f0, f1, f2, f3, f4])) (h0 : P.underlying f0.type = some (.int .i64)) (h1 : P.underlying f1.type = some (.int .i64)) (h2 : P.underlying f2.type = some (.int .i64)) (h3 : P.underlying f3.type = some (.int .i64)) (h4 : P.underlying f4.type = some (.int .i64)) (hone : oneCellFields P #[f0, f1, f2, f3, f4] = true) (hC : P.cellsOf t = 5)
    (hv : Value.okWide P w r b0 t v) (h : DataW.Trod enc P w base spare held t v d p) : ∃ r : R5, v = r.v := by
  obtain ⟨l, n, rfl, hl, hg⟩ := open_agg hs hone hC hv h
  match l, hl with
  | [c0, c1, c2, c3, c4], _ =>
    obtain ⟨c, y, e, ht⟩ := hg 0 f0 rfl
    obtain ⟨x0, hx⟩ := int_cell h0 ht
    obtain rfl : c0 = c := by simpa using e
    subst hx
    obtain ⟨c, y, e, ht⟩ := hg 1 f1 rfl
    obtain ⟨x1, hx⟩ := int_cell h1 ht
    obtain rfl : c1 = c := by simpa using e
    subst hx
    obtain ⟨c, y, e, ht⟩ := hg 2 f2 rfl
    obtain ⟨x2, hx⟩ := int_cell h2 ht
    obtain rfl : c2 = c := by simpa using e
    subst hx
    obtain ⟨c, y, e, ht⟩ := hg 3 f3 rfl
    obtain ⟨x3, hx⟩ := int_cell h3 ht
    obtain rfl : c3 = c := by simpa using e
    subst hx
    obtain ⟨c, y, e, ht⟩ := hg 4 f4 rfl
    obtain ⟨x4, hx⟩ := int_cell h4 ht
    obtain rfl : c4 = c := by simpa using e
    subst hx
    exact ⟨⟨x0, x1, x2, x3, x4⟩, rfl⟩
end
end Go.Proofs.Ytfchkhpllimkeaa
