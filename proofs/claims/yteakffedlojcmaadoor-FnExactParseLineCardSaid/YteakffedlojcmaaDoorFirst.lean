/- The first element appended to an empty slice that is not nil: a new row. No program in sight. -/
import Derived.Test.YteakffedlojcmaaDoorPushK
namespace Go.Proofs.YteakffedlojcmaaDoor
open Go.RowKit
theorem push_first {P : Program} {ops : Array Oper} {rest : List Oper} {o : Oper} {a : Act} {Q : Exit → Act → World → Prop} {W w0 : World} {cells : Array Value} {e : TypeId} (hgd : o.guard = none) (s x : Operand) (t : TypeId)
    (ho : o.op = .call { callee := .builtin .append, args := #[s, x], argTypes := #[t, t] })
    (i : TypeInfo) (z : Value) (size bytes : Nat) (ht : P.underlying t = some (.slice e)) (hi : P.info? e = some i) (hz : i.zero = some z)
    (hsize : i.size = size) (hby : i.bytes = bytes) (hzs : z.cells.size = size)
    (b0 : Addr) (hs : a.eval s = .slice (some b0) 0 0) (hb : Below w0.heap.size w0 W)
    (g : Nat) (hgw : g = W.heap.size) (hx : a.eval x = .slice (some ⟨g, 0, none⟩) 1 1) (hc : cells.size = size) (hbs : bytes ≤ 64)
    (h : ∀ v' (y : Lat w0), (later w0 y).ownsRow w0.heap.size e size v' 1 cells.toList → wpList P ops Q rest (a.put o.dst v') (later w0 y)) :
    wpList P ops Q (o :: rest) a (W.alloc (.cells cells e)) := by
  subst hgw
  subst hsize
  subst hby
  have hb' := bw_alloc hb (.cells cells e)
  have hr := run_append_grow (P := P) (w := W.alloc (.cells cells e)) t o.type e i z ht hi hz b0 0 0 [] (by simp) (by simp) ⟨W.heap.size, 0, none⟩ 1 1 cells.toList (by simpa using hc)
    (fun j u hu => by
      have e1 : (⟨W.heap.size, 0, none⟩ : Addr).add j = ⟨W.heap.size, j, none⟩ := by unfold Addr.add; split <;> simp_all
      rw [e1, World.cell?_alloc_new]
      simpa using hu) (by omega) (by omega) (by
        have h1 : Builtin.nextslicecap (0 + 1) 0 = 1 := rfl
        rw [h1]
        omega)
  refine wpList_plain hgd fun K hK => ?_
  unfold Oper.wp execOp
  simp only [ho, resolve, invoke, builtin, Sem.run_bind, Sem.run_pure, Result.andThen_ok, List.map_toArray, List.map_cons, List.map_nil, hs, hx, hr]
  refine hK _ _ ?_
  have hb2 : Below w0.heap.size w0 ((W.alloc (.cells cells e)).drew.alloc (.cells (([] : List Value).toArray ++ cells.toList.toArray ++ Builtin.zeroCells z.cells (grownCap (W.alloc (.cells cells e)) (0 + 1) 0 e - (0 + 1))) e)) := bw_alloc (bw_drew hb') _
  have hge := grownCap_ge (W.alloc (.cells cells e)) (0 + 1) 0 e
  have hcm : grownCap (W.alloc (.cells cells e)) (0 + 1) 0 e ≤ maxLen := grownCap_le_maxLen _ _ _ _ (by unfold maxLen; omega)
  have hown : ((W.alloc (.cells cells e)).drew.alloc (.cells (([] : List Value).toArray ++ cells.toList.toArray ++ Builtin.zeroCells z.cells (grownCap (W.alloc (.cells cells e)) (0 + 1) 0 e - (0 + 1))) e)).ownsRow w0.heap.size e i.size
      (.slice (some ⟨(W.alloc (.cells cells e)).heap.size, 0, none⟩) (0 + 1) (grownCap (W.alloc (.cells cells e)) (0 + 1) 0 e)) 1 cells.toList := by
    refine ⟨by simpa using hc, .inr ⟨_, _, _, rfl, hb'.size, heap_alloc_new (W.alloc (.cells cells e)).drew _, hge, hcm, ?_, ?_⟩⟩
    · simp only [Array.size_append, List.size_toArray, size_zeroCells, hzs, List.length_nil, hc, Nat.zero_add]
      generalize grownCap _ _ _ _ = q at hge
      obtain ⟨r, rfl⟩ : ∃ r, q = r + 1 := ⟨q - 1, by omega⟩
      rw [Nat.add_sub_cancel, Nat.add_mul]
      omega
    · simp only [Array.toList_append, List.nil_append]
      have : cells.toList.length = 1 * i.size := by simpa using hc
      rw [← this]
      simp
  generalize (W.alloc (.cells cells e)).drew.alloc _ = W2 at hb2 hown ⊢
  obtain ⟨y, rfl⟩ := exists_later hb2
  exact h _ y hown
end Go.Proofs.YteakffedlojcmaaDoor
