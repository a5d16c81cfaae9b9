/- What a call hands back: a slice of texts and a bool. -/
import Derived.Test.YteakffedlojcmaaDoorSplit
import Derived.Test.YteakffedlojcmaaDoorMarkT
namespace Go.Proofs.YteakffedlojcmaaDoor
open Go.RowKit
theorem OT_of_own {w' : World} {base T n : Nat} {v : Value} {xs : List ByteArray} (h : w'.ownsRow base T 1 v n (xs.map Value.string)) : ∃ A c, v = .slice A n c ∧ OT w' base w'.heap.size A n xs := by
  have hl : xs.length = n := by simpa using h.1
  rcases h.2 with ⟨rfl, rfl⟩ | ⟨g, cap, cur, rfl, hb, hg, hnc, _, hs, ht⟩
  · exact ⟨_, _, rfl, hl, fun h => absurd h (by omega)⟩
  · refine ⟨_, _, rfl, hl, fun _ => ⟨g, T, cur, rfl, hb, (Array.getElem?_eq_some_iff.1 hg).1, hg, by omega, fun i r hi => ?_⟩⟩
    have hin : i < n := by have := (List.getElem?_eq_some_iff.1 hi).1; omega
    have e1 : (cur.toList.take (n * 1))[i]? = (xs.map Value.string)[i]? := by rw [ht]
    rw [List.getElem?_take, if_pos (by omega), List.getElem?_map, hi] at e1
    simpa using e1
def TsB (w : World) (xs : List ByteArray) (b : Bool) (e : Ending) (w' : World) : Prop :=
  ∃ A m d, e = .returned (.tuple #[.slice A m d, .bool b]) ∧ OT w' w.heap.size w'.heap.size A m xs ∧ m ≤ 1048576 ∧ Below w.heap.size w w'
def GT (P : Program) (f : FuncId) (args : Array Value) (w : World) (r : List ByteArray × Bool) : Prop := Calls P f args w (TsB w r.1 r.2)
theorem TsB.none_ {w w' : World} {A : Option Addr} {d : Nat} (hb : Below w.heap.size w w') : TsB w [] false (.returned (.tuple #[.slice A 0 d, .bool false])) w' := ⟨A, 0, d, rfl, ⟨rfl, fun h => absurd h (by omega)⟩, by omega, hb⟩
theorem TsB.some_ {w w' : World} {T n : Nat} {v : Value} {xs : List ByteArray} {b : Bool} (h : w'.ownsRow w.heap.size T 1 v n (xs.map Value.string)) (hn : n ≤ 1048576) (hb : Below w.heap.size w w') : TsB w xs b (.returned (.tuple #[v, .bool b])) w' := by
  obtain ⟨A, c, rfl, ho⟩ := OT_of_own h
  exact ⟨A, n, c, rfl, ho, hn, hb⟩
theorem one_byte {s : ByteArray} (h : s.size = 1) : ∃ c, s = ⟨#[c]⟩ ∧ s = mkB [c] := by
  have hl : s.data.toList.length = 1 := by simpa using h
  match hd : s.data.toList, hl with
  | [c], _ =>
    have e : s = mkB [c] := by rw [← hd, mkB_of]
    exact ⟨c, e, e⟩
end Go.Proofs.YteakffedlojcmaaDoor
