/- One element appended to a row of the call's own, by a law in the worlds' own words; what such a row reads as. No program in sight. -/
import Derived.Test.YtnibhaabhjgmgaaDoorOwn
import Derived.OwnWalk
namespace Go.Proofs.YtnibhaabhjgmgaaDoor
open Go.RowKit
section
variable {P : Program}
theorem push_law {ops : Array Oper} {rest : List Oper} {o : Oper} {a : Act} {Q : Exit → Act → World → Prop} {W w0 : World} {cells : Array Value} {e : TypeId} (hgd : o.guard = none) (s x : Operand) (t : TypeId)
    (ho : o.op = .call { callee := .builtin .append, args := #[s, x], argTypes := #[t, t] })
    (i : TypeInfo) (z : Value) (size bytes : Nat) (ht : P.underlying t = some (.slice e)) (hi : P.info? e = some i) (hz : i.zero = some z)
    (hsize : i.size = size) (hby : i.bytes = bytes) (hzs : z.cells.size = size) (hsz : 0 < size)
    (v : Value) (n : Nat) (xs : List Value) (hs : a.eval s = v) (hown : W.ownsRow w0.heap.size e size v n xs) (hb : Below w0.heap.size w0 W)
    (g : Nat) (hgw : g = W.heap.size) (hx : a.eval x = .slice (some ⟨g, 0, none⟩) 1 1) (hc : cells.size = size) (h1 : ∀ u ∈ cells.toList, u.oneCell' = true) (hn : n ≤ 2000000) (hbs : bytes ≤ 64)
    (h : ∀ v' (y : Lat w0), (later w0 y).ownsRow w0.heap.size e size v' (n + 1) (xs ++ cells.toList) → wpList P ops Q rest (a.put o.dst v') (later w0 y)) :
    wpList P ops Q (o :: rest) a (W.alloc (.cells cells e)) := by
  subst hgw
  have hb' := bw_alloc hb (.cells cells e)
  refine wpList_append_own _ hgd s x t ho w0.heap.size e i z size bytes ht hi hz hsize hby hzs hsz v n xs hs (hown.alloc _) ⟨W.heap.size, 0, none⟩ 1 1 cells.toList hx (by simpa using hc) ?_ h1 (by unfold maxLen; omega) ?_ hb'.size ?_
  · intro j u hu
    have e1 : (⟨W.heap.size, 0, none⟩ : Addr).add j = ⟨W.heap.size, j, none⟩ := by unfold Addr.add; split <;> simp_all
    rw [e1, World.cell?_alloc_new]
    simpa using hu
  · calc (n + 1) * bytes ≤ 2000001 * 64 := Nat.mul_le_mul (by omega) hbs
      _ ≤ 140737488355328 := by decide
  · intro v' w' hown' hg _
    obtain ⟨y, rfl⟩ := exists_later (hb'.grown hg hb'.size (fun k hk => ((hown.alloc (.cells cells e)).lt k hk).1))
    exact h v' y hown'
end
theorem OI_of_own {w' : World} {base T n : Nat} {v : Value} {xs : List Int} (h : w'.ownsRow base T 1 v n (xs.map (Value.int .i64))) : ∃ A c, v = .slice A n c ∧ OI w' base w'.heap.size A n xs := by
  have hl : xs.length = n := by simpa using h.1
  rcases h.2 with ⟨rfl, rfl⟩ | ⟨g, cap, cur, rfl, hb, hg, hnc, _, hs, ht⟩
  · exact ⟨_, _, rfl, hl, fun h => absurd h (by omega)⟩
  · refine ⟨_, _, rfl, hl, fun _ => ⟨g, T, cur, rfl, hb, (Array.getElem?_eq_some_iff.1 hg).1, hg, by omega, fun i r hi => ?_⟩⟩
    have hin : i < n := by have := (List.getElem?_eq_some_iff.1 hi).1; omega
    have e1 : (cur.toList.take (n * 1))[i]? = (xs.map (Value.int .i64))[i]? := by rw [ht]
    rw [List.getElem?_take, if_pos (by omega), List.getElem?_map, hi] at e1
    simpa using e1
/-- What a call hands back: a slice that reads as the list, new or empty, and a bool. -/
def IntsB (w : World) (xs : List Int) (b : Bool) (e : Ending) (w' : World) : Prop :=
  ∃ A m d, e = .returned (.tuple #[.slice A m d, .bool b]) ∧ OI w' w.heap.size w'.heap.size A m xs ∧ m ≤ 1048576 ∧ Below w.heap.size w w'
def GI (P : Program) (f : FuncId) (args : Array Value) (w : World) (r : List Int × Bool) : Prop := Calls P f args w (IntsB w r.1 r.2)
theorem IntsB.none_ {w w' : World} {A : Option Addr} {d : Nat} (hb : Below w.heap.size w w') : IntsB w [] false (.returned (.tuple #[.slice A 0 d, .bool false])) w' := ⟨A, 0, d, rfl, ⟨rfl, fun h => absurd h (by omega)⟩, by omega, hb⟩
theorem IntsB.some_ {w w' : World} {T n : Nat} {v : Value} {xs : List Int} {b : Bool} (h : w'.ownsRow w.heap.size T 1 v n (xs.map (Value.int .i64))) (hn : n ≤ 1048576) (hb : Below w.heap.size w w') : IntsB w xs b (.returned (.tuple #[v, .bool b])) w' := by
  obtain ⟨A, c, rfl, ho⟩ := OI_of_own h
  exact ⟨A, n, c, rfl, ho, hn, hb⟩
/-- The numbers f of the elements among the first k that meet p. -/
def pickTo {α : Type} (p : α → Bool) (f : α → Int) (xs : List α) (k : Nat) : List Int := ((xs.take k).filter p).map f
theorem pick_no {α : Type} {p : α → Bool} {f : α → Int} {xs : List α} {k : Nat} {r : α} (hr : xs[k]? = some r) (h : p r = false) : pickTo p f xs (k + 1) = pickTo p f xs k := by
  simp [pickTo, List.take_add_one, hr, List.filter_append, h]
theorem pick_yes {α : Type} {p : α → Bool} {f : α → Int} {xs : List α} {k : Nat} {r : α} (hr : xs[k]? = some r) (h : p r = true) : pickTo p f xs (k + 1) = pickTo p f xs k ++ [f r] := by
  simp [pickTo, List.take_add_one, hr, List.filter_append, h]
theorem pick_len {α : Type} (p : α → Bool) (f : α → Int) (xs : List α) (k : Nat) : (pickTo p f xs k).length ≤ k := by
  simp only [pickTo, List.length_map]
  exact Nat.le_trans (List.length_filter_le _ _) (by simp; omega)
theorem OI_nil (w' : World) (lo hi : Nat) (A : Option Addr) : OI w' lo hi A 0 [] := ⟨rfl, fun h => absurd h (by omega)⟩
end Go.Proofs.YtnibhaabhjgmgaaDoor
