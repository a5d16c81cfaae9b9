/- Arguments opened: structs by value and slices of structs, every field one cell, an integer or a bool. No program in sight. -/
import Derived.Test.YtnibhaabhjgmgaaDoorPost
import Derived.Test.YtnibhaabhjgmgaaDoorLib
import Derived.Test.YtnibhaabhjgmgaaDoorStructs
namespace Go.Proofs.YtnibhaabhjgmgaaDoor
open Go.RowKit Go.WideShapes Go.ChangeShapes Go.ChangeAt Go.Deep Go.Joins
section
variable {H : Type} {enc : TypeId × Value → H} {P : Program} {w : World} {base : Nat} {spare : Nat → Bool} {held : Bool}
theorem open_slice_fields {t e : TypeId} {fs : Array Field} {fuel : Nat} {cs : List Value} {x : DataW H × List MemPlace} (ht : P.underlying t = some (.slice e)) (he : P.underlying e = some (.struct fs))
    (hone : oneCellFields P fs = true) (hC : P.cellsOf e = fs.size) (h : DataW.trod enc P w base spare held fuel t cs = some x) :
    (cs = [.slice none 0 0] ∧ x = (.nil, [])) ∨
    ∃ (a : Addr) (len cap m : Nat) (D : Nat → DataW H) (Pl : Nat → List MemPlace), cs = [.slice (some a) len cap] ∧ base ≤ a.block ∧ len ≤ cap ∧ cap ≤ maxLen ∧ m = (if spare a.block then cap else len) ∧
      x = (.slice ((List.range len).map D) ((List.range (m - len)).map fun j => D (len + j)), MemPlace.row a (m * fs.size) ++ (List.range m).flatMap Pl) ∧
      ∀ i, i < m → ∃ (ys : List (DataW H × List MemPlace)) (n : Nat), D i = .agg (ys.map (·.1)) ∧ Pl i = ys.flatMap (·.2) ∧ ys.length = fs.size ∧
        ∀ (j : Nat) (f : Field), fs[j]? = some f → ∃ (v : Value) (y : DataW H × List MemPlace), w.cell? (a.add (i * fs.size + j)) = some v ∧ ys[j]? = some y ∧ DataW.trod enc P w base spare held n f.type [v] = some y := by
  rcases open_slice ht h with h0 | ⟨a, len, cap, m, n, D, Pl, hcs, hb, hl, hm, hmm, hx, hi⟩
  · exact .inl h0
  · refine .inr ⟨a, len, cap, m, D, Pl, hcs, hb, hl, hm, hmm, by rw [hC] at hx; exact hx, fun i him => ?_⟩
    obtain ⟨cs', hc, ht'⟩ := hi i him
    rw [hC] at hc
    obtain ⟨ys, n', hn', hy, hlen, hyl, hf⟩ := DataW.trod_struct he ht'
    obtain ⟨_, hcl, hat⟩ := World.cells?_some hc
    simp only [Prod.mk.injEq] at hy
    refine ⟨ys, n', hy.1, hy.2, hyl, fun j f hj => ?_⟩
    obtain ⟨ho, hk⟩ := hone_of hone j f hj
    have hjl : j < fs.size := (Array.getElem?_eq_some_iff.1 hj).1
    have hcell := hat j hjl
    have hv : cs'[j]? = some (cs'[j]'(by omega)) := List.getElem?_eq_getElem (by omega)
    have h1 := hf j f hj
    rw [ho, hk] at h1
    have hone' : (cs'.drop j).take 1 = [cs'[j]'(by omega)] := by
      rw [List.drop_eq_getElem_cons (by omega)]
      rfl
    rw [hone'] at h1
    have hys : ys[j]? = some (ys[j]'(by omega)) := List.getElem?_eq_getElem (by omega)
    refine ⟨_, _, ?_, hys, h1.trans hys⟩
    rw [← Go.Deep.add_add, hcell, hv]
theorem add_off (g off n : Nat) : (⟨g, off, none⟩ : Addr).add n = ⟨g, off + n, none⟩ := by
  unfold Addr.add
  split <;> simp_all
/-- An address whose cell is known names no spot inside a cell. -/
theorem spot_none {a : Addr} {v : Value} (h : w.cell? a = some v) : a = ⟨a.block, a.off, none⟩ := by
  cases a with
  | mk b o s =>
    cases s with
    | none => rfl
    | some x =>
      unfold World.cell? at h
      split at h <;> simp at h
/-- An integer's cell; its number is in its bounds. -/
theorem int_cell {t : TypeId} {n : Nat} {v : Value} {y : DataW H × List MemPlace} (ht : P.underlying t = some (.int .i64)) (h : DataW.trod enc P w base spare held n t [v] = some y) : ∃ x : Int, v = .int .i64 x := by
  obtain ⟨x, hx, _⟩ := DataW.trod_int ht h
  exact ⟨x, by simpa using hx⟩
theorem bool_cell {t : TypeId} {n : Nat} {v : Value} {y : DataW H × List MemPlace} (ht : P.underlying t = some .bool) (h : DataW.trod enc P w base spare held n t [v] = some y) : ∃ x : Bool, v = .bool x := by
  obtain ⟨x, hx, _⟩ := DataW.trod_bool ht h
  exact ⟨x, by simpa using hx⟩
theorem i64_of_wf {x : Int} (h : (Lit.int .i64 x).wf = true) : I64 x := by
  simp [Lit.wf, IntKind.min, IntKind.max, IntKind.signed, IntKind.bits] at h
  exact ⟨by omega, by omega⟩
/-- A struct by value, each field one cell: each field's reading. -/
theorem open_agg {r : Reach} {b0 : Nat} {t : TypeId} {fs : Array Field} {v : Value} {d : DataW H} {p : List MemPlace} (hs : P.underlying t = some (.struct fs)) (hone : oneCellFields P fs = true) (hC : P.cellsOf t = fs.size)
    (hv : Value.okWide P w r b0 t v) (h : DataW.Trod enc P w base spare held t v d p) :
    ∃ (l : List Value) (n : Nat), v = .agg ⟨l⟩ ∧ l.length = fs.size ∧ ∀ (i : Nat) (f : Field), fs[i]? = some f → ∃ c y, l[i]? = some c ∧ DataW.trod enc P w base spare held n f.type [c] = some y := by
  obtain ⟨cs, rfl, hsz⟩ := okWide_struct hs hv
  obtain ⟨l⟩ := cs
  obtain ⟨fuel, hf⟩ := h
  obtain ⟨xs, n, _, hx, _, hlen, hg⟩ := DataW.trod_struct hs hf
  refine ⟨l, n, rfl, by simpa using hsz.trans hC, fun i f hi => ?_⟩
  obtain ⟨o0, k0⟩ := hone_of hone i f hi
  have hil : i < fs.size := (Array.getElem?_eq_some_iff.1 hi).1
  have hl : i < l.length := by
    have : l.length = fs.size := by simpa using hsz.trans hC
    omega
  have h1 := hg i f hi
  rw [o0, k0] at h1
  have h2 : ((Value.agg ⟨l⟩).cells.toList.drop i).take 1 = [l[i]] := by
    rw [show (Value.agg ⟨l⟩).cells = ⟨l⟩ from rfl, List.drop_eq_getElem_cons (by simpa using hl)]
    rfl
  rw [h2] at h1
  exact ⟨l[i], xs[i]'(by omega), List.getElem?_eq_getElem hl, by rw [h1]; exact List.getElem?_eq_getElem (by omega)⟩
theorem open_R2 {r : Reach} {b0 : Nat} {t : TypeId} {f0 f1 : Field} {v : Value} {d : DataW H} {p : List MemPlace} (hs : P.underlying t = some (.struct #[f0, f1])) (h0 : P.underlying f0.type = some (.int .i64)) (h1 : P.underlying f1.type = some (.int .i64)) (hone : oneCellFields P #[f0, f1] = true) (hC : P.cellsOf t = 2)
    (hv : Value.okWide P w r b0 t v) (h : DataW.Trod enc P w base spare held t v d p) : ∃ r : R2, v = r.v := by
  obtain ⟨l, n, rfl, hl, hg⟩ := open_agg hs hone hC hv h
  match l, hl with
  | [c0, c1], _ =>
    obtain ⟨c, y, e, ht⟩ := hg 0 f0 rfl
    obtain ⟨x0, hx⟩ := int_cell h0 ht
    obtain rfl : c0 = c := by simpa using e
    subst hx
    obtain ⟨c, y, e, ht⟩ := hg 1 f1 rfl
    obtain ⟨x1, hx⟩ := int_cell h1 ht
    obtain rfl : c1 = c := by simpa using e
    subst hx
    exact ⟨⟨x0, x1⟩, rfl⟩
theorem open_R3 {r : Reach} {b0 : Nat} {t : TypeId} {f0 f1 f2 : Field} {v : Value} {d : DataW H} {p : List MemPlace} (hs : P.underlying t = some (.struct #[f0, f1, f2])) (h0 : P.underlying f0.type = some (.int .i64)) (h1 : P.underlying f1.type = some (.int .i64)) (h2 : P.underlying f2.type = some (.int .i64)) (hone : oneCellFields P #[f0, f1, f2] = true) (hC : P.cellsOf t = 3)
    (hv : Value.okWide P w r b0 t v) (h : DataW.Trod enc P w base spare held t v d p) : ∃ r : R3, v = r.v := by
  obtain ⟨l, n, rfl, hl, hg⟩ := open_agg hs hone hC hv h
  match l, hl with
  | [c0, c1, c2], _ =>
    obtain ⟨c, y, e, ht⟩ := hg 0 f0 rfl
    obtain ⟨x0, hx⟩ := int_cell h0 ht
    obtain rfl : c0 = c := by simpa using e
    subst hx
    obtain ⟨c, y, e, ht⟩ := hg 1 f1 rfl
    obtain ⟨x1, hx⟩ := int_cell h1 ht
    obtain rfl : c1 = c := by simpa using e
    subst hx
    obtain ⟨c, y, e, ht⟩ := hg 2 f2 rfl
    obtain ⟨x2, hx⟩ := int_cell h2 ht
    obtain rfl : c2 = c := by simpa using e
    subst hx
    exact ⟨⟨x0, x1, x2⟩, rfl⟩
theorem open_Sup {r : Reach} {b0 : Nat} {t : TypeId} {f0 f1 f2 : Field} {v : Value} {d : DataW H} {p : List MemPlace} (hs : P.underlying t = some (.struct #[f0, f1, f2])) (h0 : P.underlying f0.type = some (.int .i64)) (h1 : P.underlying f1.type = some (.int .i64)) (h2 : P.underlying f2.type = some .bool) (hone : oneCellFields P #[f0, f1, f2] = true) (hC : P.cellsOf t = 3)
    (hv : Value.okWide P w r b0 t v) (h : DataW.Trod enc P w base spare held t v d p) : ∃ r : Sup, v = r.v := by
  obtain ⟨l, n, rfl, hl, hg⟩ := open_agg hs hone hC hv h
  match l, hl with
  | [c0, c1, c2], _ =>
    obtain ⟨c, y, e, ht⟩ := hg 0 f0 rfl
    obtain ⟨x0, hx⟩ := int_cell h0 ht
    obtain rfl : c0 = c := by simpa using e
    subst hx
    obtain ⟨c, y, e, ht⟩ := hg 1 f1 rfl
    obtain ⟨x1, hx⟩ := int_cell h1 ht
    obtain rfl : c1 = c := by simpa using e
    subst hx
    obtain ⟨c, y, e, ht⟩ := hg 2 f2 rfl
    obtain ⟨x2, hx⟩ := bool_cell h2 ht
    obtain rfl : c2 = c := by simpa using e
    subst hx
    exact ⟨⟨x0, x1, x2⟩, rfl⟩
theorem open_R5 {r : Reach} {b0 : Nat} {t : TypeId} {f0 f1 f2 f3 f4 : Field} {v : Value} {d : DataW H} {p : List MemPlace} (hs : P.underlying t = some (.struct #[f0, f1, f2, f3, f4])) (h0 : P.underlying f0.type = some (.int .i64)) (h1 : P.underlying f1.type = some (.int .i64)) (h2 : P.underlying f2.type = some (.int .i64)) (h3 : P.underlying f3.type = some (.int .i64)) (h4 : P.underlying f4.type = some (.int .i64)) (hone : oneCellFields P #[f0, f1, f2, f3, f4] = true) (hC : P.cellsOf t = 5)
    (hv : Value.okWide P w r b0 t v) (h : DataW.Trod enc P w base spare held t v d p) : ∃ r : R5, v = r.v := by
  obtain ⟨l, n, rfl, hl, hg⟩ := open_agg hs hone hC hv h
  match l, hl with
  | [c0, c1, c2, c3, c4], _ =>
    obtain ⟨c, y, e, ht⟩ := hg 0 f0 rfl
    obtain ⟨x0, hx⟩ := int_cell h0 ht
    obtain rfl : c0 = c := by simpa using e
    subst hx
    obtain ⟨c, y, e, ht⟩ := hg 1 f1 rfl
    obtain ⟨x1, hx⟩ := int_cell h1 ht
    obtain rfl : c1 = c := by simpa using e
    subst hx
    obtain ⟨c, y, e, ht⟩ := hg 2 f2 rfl
    obtain ⟨x2, hx⟩ := int_cell h2 ht
    obtain rfl : c2 = c := by simpa using e
    subst hx
    obtain ⟨c, y, e, ht⟩ := hg 3 f3 rfl
    obtain ⟨x3, hx⟩ := int_cell h3 ht
    obtain rfl : c3 = c := by simpa using e
    subst hx
    obtain ⟨c, y, e, ht⟩ := hg 4 f4 rfl
    obtain ⟨x4, hx⟩ := int_cell h4 ht
    obtain rfl : c4 = c := by simpa using e
    subst hx
    exact ⟨⟨x0, x1, x2, x3, x4⟩, rfl⟩
theorem openS_R2 {r : Reach} {b0 : Nat} {t e : TypeId} {f0 f1 : Field} {v : Value} {d : DataW H} {p : List MemPlace} (hst : P.underlying t = some (.slice e)) (hs : P.underlying e = some (.struct #[f0, f1])) (h0 : P.underlying f0.type = some (.int .i64)) (h1 : P.underlying f1.type = some (.int .i64)) (hone : oneCellFields P #[f0, f1] = true) (hC : P.cellsOf e = 2)
    (hv : Value.okWide P w r b0 t v) (h : DataW.Trod enc P w base (fun _ => true) held t v d p) : ∃ (A : Option Addr) (n c : Nat) (xs : List R2), v = .slice A n c ∧ AR2 w A n xs ∧ n ≤ 9223372036854775807 := by
  obtain ⟨A, n, c, rfl⟩ := okWide_slice hst hv
  obtain ⟨fuel, hf⟩ := h
  rcases open_slice_fields (spare := fun _ => true) hst hs hone hC hf with ⟨hcs, _⟩ | ⟨a, len, cap, m, D, Pl, hcs, _, hl, hmx, hm, _, hi⟩
  · simp only [Value.cells, List.cons.injEq, and_true, Value.slice.injEq] at hcs
    obtain ⟨rfl, rfl, rfl⟩ := hcs
    exact ⟨_, _, _, [], rfl, ⟨rfl, fun h => absurd h (by omega)⟩, by omega⟩
  · simp only [Value.cells, List.cons.injEq, and_true, Value.slice.injEq] at hcs
    obtain ⟨rfl, rfl, rfl⟩ := hcs
    simp only [if_true] at hm
    refine ⟨_, _, _, (List.range n).map (fun i => ⟨cellInt w (a.add (i * 2 + 0)), cellInt w (a.add (i * 2 + 1))⟩), rfl, ⟨by simp, fun hn => ?_⟩, by unfold maxLen at hmx; omega⟩
    have ha : a = ⟨a.block, a.off, none⟩ := by
      obtain ⟨ys, k, _, _, _, hf⟩ := hi 0 (by omega)
      obtain ⟨v, y, hcell, _, _⟩ := hf 0 f0 rfl
      have : a.add (0 * 1 + 0) = a := by unfold Addr.add; simp
      simp only [Nat.zero_mul, Nat.zero_add] at hcell this
      rw [this] at hcell
      exact spot_none hcell
    refine ⟨a.block, a.off, by rw [← ha], ?_, by simp, fun i r hr => ?_⟩
    · obtain ⟨ys, k, _, _, _, hf⟩ := hi 0 (by omega)
      obtain ⟨v, y, hcell, _, _⟩ := hf 0 f0 rfl
      have := World.block_lt_of_cell? w _ hcell
      rw [ha, add_off] at this
      exact this
    · have hin : i < n := by
        have h2 : i < ((List.range n).map (fun i => (⟨cellInt w (a.add (i * 2 + 0)), cellInt w (a.add (i * 2 + 1))⟩ : R2))).length := (List.getElem?_eq_some_iff.1 hr).1
        simpa using h2
      obtain ⟨ys, k, _, _, _, hf⟩ := hi i (by omega)
      rw [List.getElem?_map, List.getElem?_range hin] at hr
      simp only [Option.map_some, Option.some.injEq] at hr
      subst hr
      obtain ⟨v0, y0, hc0, _, t0⟩ := hf 0 f0 rfl
      obtain ⟨x0, rfl⟩ := int_cell h0 t0
      rw [show #[f0, f1].size = 2 from rfl] at hc0
      obtain ⟨v1, y1, hc1, _, t1⟩ := hf 1 f1 rfl
      obtain ⟨x1, rfl⟩ := int_cell h1 t1
      rw [show #[f0, f1].size = 2 from rfl] at hc1
      simp only [cellInt, hc0, hc1]
      rw [ha, add_off] at hc0
      rw [ha, add_off] at hc1
      simp only [Nat.add_zero, ← Nat.add_assoc] at hc0 hc1
      exact ⟨hc0, hc1⟩
theorem openS_R3 {r : Reach} {b0 : Nat} {t e : TypeId} {f0 f1 f2 : Field} {v : Value} {d : DataW H} {p : List MemPlace} (hst : P.underlying t = some (.slice e)) (hs : P.underlying e = some (.struct #[f0, f1, f2])) (h0 : P.underlying f0.type = some (.int .i64)) (h1 : P.underlying f1.type = some (.int .i64)) (h2 : P.underlying f2.type = some (.int .i64)) (hone : oneCellFields P #[f0, f1, f2] = true) (hC : P.cellsOf e = 3)
    (hv : Value.okWide P w r b0 t v) (h : DataW.Trod enc P w base (fun _ => true) held t v d p) : ∃ (A : Option Addr) (n c : Nat) (xs : List R3), v = .slice A n c ∧ AR3 w A n xs ∧ n ≤ 9223372036854775807 := by
  obtain ⟨A, n, c, rfl⟩ := okWide_slice hst hv
  obtain ⟨fuel, hf⟩ := h
  rcases open_slice_fields (spare := fun _ => true) hst hs hone hC hf with ⟨hcs, _⟩ | ⟨a, len, cap, m, D, Pl, hcs, _, hl, hmx, hm, _, hi⟩
  · simp only [Value.cells, List.cons.injEq, and_true, Value.slice.injEq] at hcs
    obtain ⟨rfl, rfl, rfl⟩ := hcs
    exact ⟨_, _, _, [], rfl, ⟨rfl, fun h => absurd h (by omega)⟩, by omega⟩
  · simp only [Value.cells, List.cons.injEq, and_true, Value.slice.injEq] at hcs
    obtain ⟨rfl, rfl, rfl⟩ := hcs
    simp only [if_true] at hm
    refine ⟨_, _, _, (List.range n).map (fun i => ⟨cellInt w (a.add (i * 3 + 0)), cellInt w (a.add (i * 3 + 1)), cellInt w (a.add (i * 3 + 2))⟩), rfl, ⟨by simp, fun hn => ?_⟩, by unfold maxLen at hmx; omega⟩
    have ha : a = ⟨a.block, a.off, none⟩ := by
      obtain ⟨ys, k, _, _, _, hf⟩ := hi 0 (by omega)
      obtain ⟨v, y, hcell, _, _⟩ := hf 0 f0 rfl
      have : a.add (0 * 1 + 0) = a := by unfold Addr.add; simp
      simp only [Nat.zero_mul, Nat.zero_add] at hcell this
      rw [this] at hcell
      exact spot_none hcell
    refine ⟨a.block, a.off, by rw [← ha], ?_, by simp, fun i r hr => ?_⟩
    · obtain ⟨ys, k, _, _, _, hf⟩ := hi 0 (by omega)
      obtain ⟨v, y, hcell, _, _⟩ := hf 0 f0 rfl
      have := World.block_lt_of_cell? w _ hcell
      rw [ha, add_off] at this
      exact this
    · have hin : i < n := by
        have h2 : i < ((List.range n).map (fun i => (⟨cellInt w (a.add (i * 3 + 0)), cellInt w (a.add (i * 3 + 1)), cellInt w (a.add (i * 3 + 2))⟩ : R3))).length := (List.getElem?_eq_some_iff.1 hr).1
        simpa using h2
      obtain ⟨ys, k, _, _, _, hf⟩ := hi i (by omega)
      rw [List.getElem?_map, List.getElem?_range hin] at hr
      simp only [Option.map_some, Option.some.injEq] at hr
      subst hr
      obtain ⟨v0, y0, hc0, _, t0⟩ := hf 0 f0 rfl
      obtain ⟨x0, rfl⟩ := int_cell h0 t0
      rw [show #[f0, f1, f2].size = 3 from rfl] at hc0
      obtain ⟨v1, y1, hc1, _, t1⟩ := hf 1 f1 rfl
      obtain ⟨x1, rfl⟩ := int_cell h1 t1
      rw [show #[f0, f1, f2].size = 3 from rfl] at hc1
      obtain ⟨v2, y2, hc2, _, t2⟩ := hf 2 f2 rfl
      obtain ⟨x2, rfl⟩ := int_cell h2 t2
      rw [show #[f0, f1, f2].size = 3 from rfl] at hc2
      simp only [cellInt, hc0, hc1, hc2]
      rw [ha, add_off] at hc0
      rw [ha, add_off] at hc1
      rw [ha, add_off] at hc2
      simp only [Nat.add_zero, ← Nat.add_assoc] at hc0 hc1 hc2
      exact ⟨hc0, hc1, hc2⟩
theorem openS_Sup {r : Reach} {b0 : Nat} {t e : TypeId} {f0 f1 f2 : Field} {v : Value} {d : DataW H} {p : List MemPlace} (hst : P.underlying t = some (.slice e)) (hs : P.underlying e = some (.struct #[f0, f1, f2])) (h0 : P.underlying f0.type = some (.int .i64)) (h1 : P.underlying f1.type = some (.int .i64)) (h2 : P.underlying f2.type = some .bool) (hone : oneCellFields P #[f0, f1, f2] = true) (hC : P.cellsOf e = 3)
    (hv : Value.okWide P w r b0 t v) (h : DataW.Trod enc P w base (fun _ => true) held t v d p) : ∃ (A : Option Addr) (n c : Nat) (xs : List Sup), v = .slice A n c ∧ ASup w A n xs ∧ n ≤ 9223372036854775807 := by
  obtain ⟨A, n, c, rfl⟩ := okWide_slice hst hv
  obtain ⟨fuel, hf⟩ := h
  rcases open_slice_fields (spare := fun _ => true) hst hs hone hC hf with ⟨hcs, _⟩ | ⟨a, len, cap, m, D, Pl, hcs, _, hl, hmx, hm, _, hi⟩
  · simp only [Value.cells, List.cons.injEq, and_true, Value.slice.injEq] at hcs
    obtain ⟨rfl, rfl, rfl⟩ := hcs
    exact ⟨_, _, _, [], rfl, ⟨rfl, fun h => absurd h (by omega)⟩, by omega⟩
  · simp only [Value.cells, List.cons.injEq, and_true, Value.slice.injEq] at hcs
    obtain ⟨rfl, rfl, rfl⟩ := hcs
    simp only [if_true] at hm
    refine ⟨_, _, _, (List.range n).map (fun i => ⟨cellInt w (a.add (i * 3 + 0)), cellInt w (a.add (i * 3 + 1)), cellBool w (a.add (i * 3 + 2))⟩), rfl, ⟨by simp, fun hn => ?_⟩, by unfold maxLen at hmx; omega⟩
    have ha : a = ⟨a.block, a.off, none⟩ := by
      obtain ⟨ys, k, _, _, _, hf⟩ := hi 0 (by omega)
      obtain ⟨v, y, hcell, _, _⟩ := hf 0 f0 rfl
      have : a.add (0 * 1 + 0) = a := by unfold Addr.add; simp
      simp only [Nat.zero_mul, Nat.zero_add] at hcell this
      rw [this] at hcell
      exact spot_none hcell
    refine ⟨a.block, a.off, by rw [← ha], ?_, by simp, fun i r hr => ?_⟩
    · obtain ⟨ys, k, _, _, _, hf⟩ := hi 0 (by omega)
      obtain ⟨v, y, hcell, _, _⟩ := hf 0 f0 rfl
      have := World.block_lt_of_cell? w _ hcell
      rw [ha, add_off] at this
      exact this
    · have hin : i < n := by
        have h2 : i < ((List.range n).map (fun i => (⟨cellInt w (a.add (i * 3 + 0)), cellInt w (a.add (i * 3 + 1)), cellBool w (a.add (i * 3 + 2))⟩ : Sup))).length := (List.getElem?_eq_some_iff.1 hr).1
        simpa using h2
      obtain ⟨ys, k, _, _, _, hf⟩ := hi i (by omega)
      rw [List.getElem?_map, List.getElem?_range hin] at hr
      simp only [Option.map_some, Option.some.injEq] at hr
      subst hr
      obtain ⟨v0, y0, hc0, _, t0⟩ := hf 0 f0 rfl
      obtain ⟨x0, rfl⟩ := int_cell h0 t0
      rw [show #[f0, f1, f2].size = 3 from rfl] at hc0
      obtain ⟨v1, y1, hc1, _, t1⟩ := hf 1 f1 rfl
      obtain ⟨x1, rfl⟩ := int_cell h1 t1
      rw [show #[f0, f1, f2].size = 3 from rfl] at hc1
      obtain ⟨v2, y2, hc2, _, t2⟩ := hf 2 f2 rfl
      obtain ⟨x2, rfl⟩ := bool_cell h2 t2
      rw [show #[f0, f1, f2].size = 3 from rfl] at hc2
      simp only [cellInt, cellBool, hc0, hc1, hc2]
      rw [ha, add_off] at hc0
      rw [ha, add_off] at hc1
      rw [ha, add_off] at hc2
      simp only [Nat.add_zero, ← Nat.add_assoc] at hc0 hc1 hc2
      exact ⟨hc0, hc1, hc2⟩
theorem openS_R5 {r : Reach} {b0 : Nat} {t e : TypeId} {f0 f1 f2 f3 f4 : Field} {v : Value} {d : DataW H} {p : List MemPlace} (hst : P.underlying t = some (.slice e)) (hs : P.underlying e = some (.struct #[f0, f1, f2, f3, f4])) (h0 : P.underlying f0.type = some (.int .i64)) (h1 : P.underlying f1.type = some (.int .i64)) (h2 : P.underlying f2.type = some (.int .i64)) (h3 : P.underlying f3.type = some (.int .i64)) (h4 : P.underlying f4.type = some (.int .i64)) (hone : oneCellFields P #[f0, f1, f2, f3, f4] = true) (hC : P.cellsOf e = 5)
    (hv : Value.okWide P w r b0 t v) (h : DataW.Trod enc P w base (fun _ => true) held t v d p) : ∃ (A : Option Addr) (n c : Nat) (xs : List R5), v = .slice A n c ∧ AR5 w A n xs ∧ n ≤ 9223372036854775807 := by
  obtain ⟨A, n, c, rfl⟩ := okWide_slice hst hv
  obtain ⟨fuel, hf⟩ := h
  rcases open_slice_fields (spare := fun _ => true) hst hs hone hC hf with ⟨hcs, _⟩ | ⟨a, len, cap, m, D, Pl, hcs, _, hl, hmx, hm, _, hi⟩
  · simp only [Value.cells, List.cons.injEq, and_true, Value.slice.injEq] at hcs
    obtain ⟨rfl, rfl, rfl⟩ := hcs
    exact ⟨_, _, _, [], rfl, ⟨rfl, fun h => absurd h (by omega)⟩, by omega⟩
  · simp only [Value.cells, List.cons.injEq, and_true, Value.slice.injEq] at hcs
    obtain ⟨rfl, rfl, rfl⟩ := hcs
    simp only [if_true] at hm
    refine ⟨_, _, _, (List.range n).map (fun i => ⟨cellInt w (a.add (i * 5 + 0)), cellInt w (a.add (i * 5 + 1)), cellInt w (a.add (i * 5 + 2)), cellInt w (a.add (i * 5 + 3)), cellInt w (a.add (i * 5 + 4))⟩), rfl, ⟨by simp, fun hn => ?_⟩, by unfold maxLen at hmx; omega⟩
    have ha : a = ⟨a.block, a.off, none⟩ := by
      obtain ⟨ys, k, _, _, _, hf⟩ := hi 0 (by omega)
      obtain ⟨v, y, hcell, _, _⟩ := hf 0 f0 rfl
      have : a.add (0 * 1 + 0) = a := by unfold Addr.add; simp
      simp only [Nat.zero_mul, Nat.zero_add] at hcell this
      rw [this] at hcell
      exact spot_none hcell
    refine ⟨a.block, a.off, by rw [← ha], ?_, by simp, fun i r hr => ?_⟩
    · obtain ⟨ys, k, _, _, _, hf⟩ := hi 0 (by omega)
      obtain ⟨v, y, hcell, _, _⟩ := hf 0 f0 rfl
      have := World.block_lt_of_cell? w _ hcell
      rw [ha, add_off] at this
      exact this
    · have hin : i < n := by
        have h2 : i < ((List.range n).map (fun i => (⟨cellInt w (a.add (i * 5 + 0)), cellInt w (a.add (i * 5 + 1)), cellInt w (a.add (i * 5 + 2)), cellInt w (a.add (i * 5 + 3)), cellInt w (a.add (i * 5 + 4))⟩ : R5))).length := (List.getElem?_eq_some_iff.1 hr).1
        simpa using h2
      obtain ⟨ys, k, _, _, _, hf⟩ := hi i (by omega)
      rw [List.getElem?_map, List.getElem?_range hin] at hr
      simp only [Option.map_some, Option.some.injEq] at hr
      subst hr
      obtain ⟨v0, y0, hc0, _, t0⟩ := hf 0 f0 rfl
      obtain ⟨x0, rfl⟩ := int_cell h0 t0
      rw [show #[f0, f1, f2, f3, f4].size = 5 from rfl] at hc0
      obtain ⟨v1, y1, hc1, _, t1⟩ := hf 1 f1 rfl
      obtain ⟨x1, rfl⟩ := int_cell h1 t1
      rw [show #[f0, f1, f2, f3, f4].size = 5 from rfl] at hc1
      obtain ⟨v2, y2, hc2, _, t2⟩ := hf 2 f2 rfl
      obtain ⟨x2, rfl⟩ := int_cell h2 t2
      rw [show #[f0, f1, f2, f3, f4].size = 5 from rfl] at hc2
      obtain ⟨v3, y3, hc3, _, t3⟩ := hf 3 f3 rfl
      obtain ⟨x3, rfl⟩ := int_cell h3 t3
      rw [show #[f0, f1, f2, f3, f4].size = 5 from rfl] at hc3
      obtain ⟨v4, y4, hc4, _, t4⟩ := hf 4 f4 rfl
      obtain ⟨x4, rfl⟩ := int_cell h4 t4
      rw [show #[f0, f1, f2, f3, f4].size = 5 from rfl] at hc4
      simp only [cellInt, hc0, hc1, hc2, hc3, hc4]
      rw [ha, add_off] at hc0
      rw [ha, add_off] at hc1
      rw [ha, add_off] at hc2
      rw [ha, add_off] at hc3
      rw [ha, add_off] at hc4
      simp only [Nat.add_zero, ← Nat.add_assoc] at hc0 hc1 hc2 hc3 hc4
      exact ⟨hc0, hc1, hc2, hc3, hc4⟩
end
end Go.Proofs.YtnibhaabhjgmgaaDoor
