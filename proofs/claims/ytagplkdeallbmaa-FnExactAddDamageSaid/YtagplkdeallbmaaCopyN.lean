/- A slice of elements of more cells than one copied into a row that is known whole. No program in sight. -/
import Derived.Test.YtagplkdeallbmaaClone2
import Derived.Laws.CopyOwn
namespace Go.Proofs.Ytagplkdeallbmaa
open Go Go.RowKit
section
variable {P : Program}
theorem run_copy_many (w : World) (dT sT ty elem : TypeId) (size g o dLen dCap : Nat) (ad : Addr) (sLen sCap : Nat) (cur : List Value) (t : TypeId) (cs : List Value)
    (hu : P.underlying dT = some (.slice elem)) (hs : (P.info? elem).map (·.size) = some size)
    (hg : w.heap[g]? = some (.cells cur.toArray t (0, 0))) (hn : cs.length = Nat.min sLen dLen * size)
    (hsrc : ∀ j v, cs[j]? = some v → w.cell? (ad.add j) = some v) (hfit : o + cs.length ≤ cur.length) (h1 : ∀ v ∈ cs, v.oneCell' = true) :
    (Builtin.copy_ #[dT, sT] ty #[.slice (some ⟨g, o, none⟩) dLen dCap, .slice (some ad) sLen sCap]).run P w = .ok (goInt (Nat.min sLen dLen)) (w.setRow g (splice cur o cs).toArray) := by
  have hl := run_loadCells_list (P := P) w ad cs hsrc
  have hst := run_storeCells_at P g o t cs 0 cur.toArray w hg (by simpa using hfit) h1
  cases hq : P.info? elem with
  | none => simp [hq] at hs
  | some i =>
    have hi : i.size = size := by simpa [hq] using hs
    rw [hn] at hl
    simp only [Nat.min_def] at hl ⊢
    simp [Builtin.copy_, run_underlying hu, Builtin.lenOf, Builtin.firstCells, sizeOf, typeInfo, hq, hi, hl, hst, Nat.min_def, splice]
theorem wpList_copy_many {w w0 : World} {ops : Array Oper} {rest : List Oper} {o : Oper} {a : Act} {Q : Exit → Act → World → Prop} (hgd : o.guard = none) (d s : Operand) (dT sT : TypeId)
    (ho : o.op = .call { callee := .builtin .copy, args := #[d, s], argTypes := #[dT, sT] }) (elem : TypeId) (size : Nat) (hu : P.underlying dT = some (.slice elem)) (hsz : (P.info? elem).map (·.size) = some size)
    (g off dLen dCap : Nat) (ad : Addr) (sLen sCap : Nat) (hd : a.eval d = .slice (some ⟨g, off, none⟩) dLen dCap) (hs : a.eval s = .slice (some ad) sLen sCap)
    (cur : List Value) (t : TypeId) (hg : w.heap[g]? = some (.cells cur.toArray t (0, 0))) (cs : List Value) (hn : cs.length = Nat.min sLen dLen * size)
    (hsrc : ∀ j v, cs[j]? = some v → w.cell? (ad.add j) = some v) (hfit : off + cs.length ≤ cur.length) (h1 : ∀ v ∈ cs, v.oneCell' = true) (hb : Below w0.heap.size w0 w) (hBg : w0.heap.size ≤ g)
    (h : ∀ y : Lat w0, Hid ((later w0 y).heap[g]? = some (.cells (splice cur off cs).toArray t (0, 0))) → (∀ k, k < w.heap.size → k ≠ g → (later w0 y).heap[k]? = w.heap[k]?) → w.heap.size ≤ (later w0 y).heap.size → wpList P ops Q rest (a.put o.dst (goInt (Nat.min sLen dLen))) (later w0 y)) :
    wpList P ops Q (o :: rest) a w := by
  refine wpList_plain hgd fun K hK => ?_
  have hrun := run_copy_many (P := P) w dT sT o.type elem size g off dLen dCap ad sLen sCap cur t cs hu hsz hg hn hsrc hfit h1
  obtain ⟨y, hy⟩ := exists_later (below_setRow hb hBg (splice cur off cs).toArray)
  have hh := h y (by rw [← hy]; exact Lib.hid (setRow_heap w g _ _ t _ hg)) (fun k _ hne => by rw [← hy]; exact setRow_other w g k _ hne) (by rw [← hy]; simp [World.setRow])
  rw [← hy] at hh
  unfold Oper.wp
  simp only [execOp, ho, resolve, invoke, builtin, Sem.run_bind, Sem.run_pure, Result.andThen_ok, List.map_toArray, List.map_cons, List.map_nil, hd, hs, hrun]
  exact hK _ _ hh
theorem step_copy_many {w w0 : World} {ops : Array Oper} {o : Oper} {a : Act} {K : Act → World → Prop} {Q : Exit → Act → World → Prop} {E : Prop} (hgd : o.guard = none) (d s : Operand) (dT sT : TypeId)
    (ho : o.op = .call { callee := .builtin .copy, args := #[d, s], argTypes := #[dT, sT] }) (elem : TypeId) (size : Nat) (hu : P.underlying dT = some (.slice elem)) (hsz : (P.info? elem).map (·.size) = some size)
    (g off dLen dCap : Nat) (ad : Addr) (sLen sCap : Nat) (hd : a.eval d = .slice (some ⟨g, off, none⟩) dLen dCap) (hs : a.eval s = .slice (some ad) sLen sCap)
    (cur : List Value) (t : TypeId) (hg : w.heap[g]? = some (.cells cur.toArray t (0, 0))) (cs : List Value) (hn : cs.length = Nat.min sLen dLen * size)
    (hsrc : ∀ j v, cs[j]? = some v → w.cell? (ad.add j) = some v) (hfit : off + cs.length ≤ cur.length) (h1 : ∀ v ∈ cs, v.oneCell' = true) (hb : Below w0.heap.size w0 w) (hBg : w0.heap.size ≤ g)
    (h : ∀ y : Lat w0, Hid ((later w0 y).heap[g]? = some (.cells (splice cur off cs).toArray t (0, 0))) → (∀ k, k < w.heap.size → k ≠ g → (later w0 y).heap[k]? = w.heap[k]?) → w.heap.size ≤ (later w0 y).heap.size → K (a.put o.dst (goInt (Nat.min sLen dLen))) (later w0 y)) :
    if Region.wanted o (yielded ops a.tmps) = true then Oper.wp P o a w K Q else E := by
  have hw : Region.wanted o (yielded ops a.tmps) = true := by simp [Region.wanted, hgd]
  rw [if_pos hw]
  have hrun := run_copy_many (P := P) w dT sT o.type elem size g off dLen dCap ad sLen sCap cur t cs hu hsz hg hn hsrc hfit h1
  obtain ⟨y, hy⟩ := exists_later (below_setRow hb hBg (splice cur off cs).toArray)
  have hh := h y (by rw [← hy]; exact Lib.hid (setRow_heap w g _ _ t _ hg)) (fun k _ hne => by rw [← hy]; exact setRow_other w g k _ hne) (by rw [← hy]; simp [World.setRow])
  rw [← hy] at hh
  unfold Oper.wp
  simp only [execOp, ho, resolve, invoke, builtin, Sem.run_bind, Sem.run_pure, Result.andThen_ok, List.map_toArray, List.map_cons, List.map_nil, hd, hs, hrun]
  exact hh
end
/-- Two copies that open a row at place k and fill the gap. -/
theorem splice_open {α : Type} (L : List α) (cs X : List α) (k m : Nat) (hk : k ≤ cs.length) (hL : L.take cs.length = cs) (hX : X.length = m) (hfit : cs.length + m ≤ L.length) :
    (splice (splice L (k + m) (cs.drop k)) k X).take (cs.length + m) = cs.take k ++ X ++ cs.drop k := by
  have e1 : (L.take (k + m)).length = k + m := by rw [List.length_take]; omega
  have e2 : L.take k = cs.take k := by rw [← hL, List.take_take, Nat.min_eq_left hk]
  have eB : (cs.drop k).length = cs.length - k := List.length_drop
  unfold splice
  generalize L.drop (k + m + (cs.drop k).length) = R
  have e3 : (L.take (k + m) ++ (cs.drop k ++ R)).take k = cs.take k := by
    rw [List.take_append_of_le_length (by omega), List.take_take, Nat.min_eq_left (by omega), e2]
  have e4 : (L.take (k + m) ++ (cs.drop k ++ R)).drop (k + X.length) = cs.drop k ++ R := by
    rw [hX]; exact List.drop_left' e1
  rw [e3, e4, ← List.append_assoc, ← List.append_assoc]
  refine List.take_left' ?_
  rw [List.length_append, List.length_append, List.length_take, eB, hX]
  omega
/-- Two copies that fill a row from place k on. -/
theorem splice_fill {α : Type} (L : List α) (B X : List α) (k m : Nat) (hX : X.length = m) (hfit : k + m + B.length ≤ L.length) :
    (splice (splice L k X) (k + m) B).take (k + m + B.length) = L.take k ++ X ++ B := by
  have e1 : (L.take k).length = k := by rw [List.length_take]; omega
  unfold splice
  rw [hX]
  have e3 : (L.take k ++ (X ++ L.drop (k + m))).take (k + m) = L.take k ++ X := by
    rw [← List.append_assoc]
    exact List.take_left' (by rw [List.length_append, e1, hX])
  rw [e3]
  generalize (L.take k ++ (X ++ L.drop (k + m))).drop (k + m + B.length) = R
  rw [← List.append_assoc (L.take k ++ X)]
  refine List.take_left' ?_
  rw [List.length_append, List.length_append, e1, hX]
end Go.Proofs.Ytagplkdeallbmaa
