/- Regions that draw their order, read a struct of the call's own and append to a row: a class of worlds in which that struct's block stays. No program in sight. -/
import Derived.Test.YteakffedlojcmaaDoorRegion
import Derived.Test.YteakffedlojcmaaDoorPush
namespace Go.Proofs.YteakffedlojcmaaDoor
open Go Go.RowKit
/-- Behind w; block b holds these cells. -/
structure Cw (w : World) (b : Nat) (cs : Array Value) (t : TypeId) (w' : World) : Prop where
  below : Below w.heap.size w w'
  blk : w'.heap[b]? = some (.cells cs t (0, 0))
section
variable {w w' : World} {b : Nat} {cs : Array Value} {t : TypeId}
theorem Cw.lt (h : Cw w b cs t w') : b < w'.heap.size := (Array.getElem?_eq_some_iff.1 h.blk).1
theorem Cw.later (h : Cw w b cs t w') (x : Lat w') : Cw w b cs t (later w' x) := ⟨bw_later h.below x, ((later_below w' x).block b h.lt).trans h.blk⟩
theorem Cw.alloc (h : Cw w b cs t w') (o : Obj) : Cw w b cs t (w'.alloc o) := ⟨bw_alloc h.below o, (Below.heap_alloc w' o b h.lt).trans h.blk⟩
theorem Cw.drew (h : Cw w b cs t w') : Cw w b cs t w'.drew := ⟨bw_drew h.below, h.blk⟩
theorem Cw.new (h : Below w.heap.size w w') (cs : Array Value) (t : TypeId) : Cw w w'.heap.size cs t (w'.alloc (.cells cs t)) := ⟨bw_alloc h _, heap_alloc_new w' _⟩
theorem Cw.cell (h : Cw w b cs t w') (i : Nat) : w'.cell? ⟨b, i, none⟩ = cs[i]? := cell_of_row w' b i cs t (0, 0) h.blk
end
section
variable {P : Program} {md : Region.Mode} {C : World → Prop}
/-- An operation that reads is taken first: for any class. -/
theorem step_readC {l rest : List Oper} {K : Act → World → Prop} {i fuel : Nat} {o : Oper} {listed : Array Bool} {a : Act} {w : World} (hs : Region.noSelect l.toArray = true) (hf : ((Region.ready md l.toArray listed).contains i && Region.free md l.toArray listed i) = true) (hi0 : l.drop i = o :: rest)
    (hC : C w) (hwt : Region.wanted o (yielded l.toArray a.tmps) = true)
    (h0 : ∀ K' : Act → Prop, (∀ a, wpAnyC P md l.toArray C (nrm K) fuel (listed.setIfInBounds i true) a w → K' a) → ∃ v, (∀ w', C w' → (execOp a.eval o).run P w' = .ok (.value v) w') ∧ K' (a.put o.dst v)) : wpAnyC P md l.toArray C (nrm K) (fuel + 1) listed a w := by
  have hi := at_drop hi0
  obtain ⟨v, hrun, h⟩ := h0 _ fun _ h => h
  simp only [Bool.and_eq_true] at hf
  refine wpAnyC_first hi (Region.noSelect_spec hs) (fun _ _ _ h => h.elim) fuel listed a w hC (Region.free_spec hi hf.2) (by simpa using hf.1) (.inl ⟨hwt, fun w' hw' => ?_⟩) h
  unfold Oper.quietAt
  rw [hrun w' hw']
  exact ⟨rfl, rfl⟩
/-- One element appended to a row of the call's own: every other block stays. -/
theorem push_keep {ops : Array Oper} {rest : List Oper} {o : Oper} {a : Act} {Q : Exit → Act → World → Prop} {W w0 : World} {cells : Array Value} {e : TypeId} (hgd : o.guard = none) (s x : Operand) (t : TypeId)
    (ho : o.op = .call { callee := .builtin .append, args := #[s, x], argTypes := #[t, t] })
    (i : TypeInfo) (z : Value) (size bytes : Nat) (ht : P.underlying t = some (.slice e)) (hi : P.info? e = some i) (hz : i.zero = some z)
    (hsize : i.size = size) (hby : i.bytes = bytes) (hzs : z.cells.size = size) (hsz : 0 < size)
    (v : Value) (n : Nat) (xs : List Value) (hs : a.eval s = v) (hown : W.ownsRow w0.heap.size e size v n xs) (hb : Below w0.heap.size w0 W)
    (g : Nat) (hgw : g = W.heap.size) (hx : a.eval x = .slice (some ⟨g, 0, none⟩) 1 1) (hc : cells.size = size) (h1 : ∀ u ∈ cells.toList, u.oneCell' = true) (hn : n ≤ 2000000) (hbs : bytes ≤ 64)
    (h : ∀ v' (y : Lat w0), (later w0 y).ownsRow w0.heap.size e size v' (n + 1) (xs ++ cells.toList) → (∀ k, k < W.heap.size → v.ownBlock ≠ some k → (later w0 y).heap[k]? = W.heap[k]?) → wpList P ops Q rest (a.put o.dst v') (later w0 y)) :
    wpList P ops Q (o :: rest) a (W.alloc (.cells cells e)) := by
  subst hgw
  have hb' := bw_alloc hb (.cells cells e)
  refine wpList_append_own _ hgd s x t ho w0.heap.size e i z size bytes ht hi hz hsize hby hzs hsz v n xs hs (hown.alloc _) ⟨W.heap.size, 0, none⟩ 1 1 cells.toList hx (by simpa using hc) ?_ h1 (by unfold maxLen; omega) ?_ hb'.size ?_
  · intro j u hu
    have e1 : (⟨W.heap.size, 0, none⟩ : Addr).add j = ⟨W.heap.size, j, none⟩ := by unfold Addr.add; split <;> simp_all
    rw [e1, World.cell?_alloc_new]
    simpa using hu
  · calc (n + 1) * bytes ≤ 2000001 * 64 := Nat.mul_le_mul (by omega) hbs
      _ ≤ 140737488355328 := by decide
  · intro v' w' hown' hg _
    obtain ⟨y, rfl⟩ := exists_later (hb'.grown hg hb'.size (fun k hk => ((hown.alloc (.cells cells e)).lt k hk).1))
    refine h v' y hown' fun k hk hne => ?_
    have := hg.block k (by simp; omega) (fun e => hne e.symm)
    rw [this]
    exact Below.heap_alloc W _ k hk
/-- The row's block is none that came behind it. -/
theorem own_ne {w : World} {base T size n : Nat} {v : Value} {xs : List Value} (h : w.ownsRow base T size v n xs) {k : Nat} (hk : w.heap.size ≤ k) : v.ownBlock ≠ some k := fun e => by
  have := (h.lt k e).2
  omega
end
end Go.Proofs.YteakffedlojcmaaDoor
