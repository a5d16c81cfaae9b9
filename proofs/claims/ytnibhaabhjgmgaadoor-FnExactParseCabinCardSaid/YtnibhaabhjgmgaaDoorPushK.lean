/- Rows of structs that grow by append: what such a row reads as; what a call that hands one back says. No program in sight. -/
import Derived.Test.YtnibhaabhjgmgaaDoorPush
namespace Go.Proofs.YtnibhaabhjgmgaaDoor
open Go.RowKit
theorem flat_at {α : Type} {cs : α → List Value} {m : Nat} (hm : ∀ a, (cs a).length = m) : ∀ (xs : List α) (i j : Nat) (a : α), xs[i]? = some a → j < m → (xs.flatMap cs)[i * m + j]? = (cs a)[j]?
  | [], i, j, a, h, _ => by simp at h
  | x :: xs, 0, j, a, h, hj => by
    simp only [List.getElem?_cons_zero, Option.some.injEq] at h
    subst h
    rw [List.flatMap_cons, List.getElem?_append_left (by rw [hm]; omega)]
    simp
  | x :: xs, i + 1, j, a, h, hj => by
    simp only [List.getElem?_cons_succ] at h
    have e : (i + 1) * m + j = i * m + j + m := by rw [Nat.add_mul]; omega
    rw [List.flatMap_cons, List.getElem?_append_right (by rw [hm]; omega), hm, e, Nat.add_sub_cancel]
    exact flat_at hm xs i j a h hj
theorem flat_len {α : Type} {cs : α → List Value} {m : Nat} (hm : ∀ a, (cs a).length = m) : ∀ xs : List α, (xs.flatMap cs).length = xs.length * m
  | [] => by simp
  | x :: xs => by rw [List.flatMap_cons, List.length_append, hm, flat_len hm xs, List.length_cons, Nat.add_mul]; omega
theorem R3.cs_len (r : R3) : r.cs.length = 3 := rfl
theorem OR3_of_own {w' : World} {base T n : Nat} {v : Value} {xs : List R3} (h : w'.ownsRow base T 3 v n (xs.flatMap R3.cs)) (hx : xs.length = n) : ∃ A c, v = .slice A n c ∧ OR3 w' base w'.heap.size A n xs := by
  rcases h.2 with ⟨rfl, rfl⟩ | ⟨g, cap, cur, rfl, hb, hg, hnc, _, hs, ht⟩
  · exact ⟨_, _, rfl, hx, fun h => absurd h (by omega)⟩
  · refine ⟨_, _, rfl, hx, fun _ => ⟨g, T, cur, rfl, hb, (Array.getElem?_eq_some_iff.1 hg).1, hg, by rw [hs]; exact Nat.mul_le_mul_right _ hnc, fun i r hi => ?_⟩⟩
    have hin : i < n := by have := (List.getElem?_eq_some_iff.1 hi).1; omega
    have key : ∀ j, j < 3 → cur[i * 3 + j]? = r.cs[j]? := fun j hj => by
      have e1 : (cur.toList.take (n * 3))[i * 3 + j]? = (xs.flatMap R3.cs)[i * 3 + j]? := by rw [ht]
      rw [List.getElem?_take, if_pos (by omega), flat_at R3.cs_len xs i j r hi hj] at e1
      simpa using e1
    exact ⟨key 0 (by omega), key 1 (by omega), key 2 (by omega)⟩
/-- What a call hands back: a slice that reads as the list, new or empty, and a bool. -/
def R3sB (w : World) (xs : List R3) (b : Bool) (e : Ending) (w' : World) : Prop :=
  ∃ A m d, e = .returned (.tuple #[.slice A m d, .bool b]) ∧ OR3 w' w.heap.size w'.heap.size A m xs ∧ m ≤ 1048576 ∧ Below w.heap.size w w'
def GR3 (P : Program) (f : FuncId) (args : Array Value) (w : World) (r : List R3 × Bool) : Prop := Calls P f args w (R3sB w r.1 r.2)
theorem R3sB.none_ {w w' : World} {A : Option Addr} {d : Nat} (hb : Below w.heap.size w w') : R3sB w [] false (.returned (.tuple #[.slice A 0 d, .bool false])) w' := ⟨A, 0, d, rfl, ⟨rfl, fun h => absurd h (by omega)⟩, by omega, hb⟩
theorem R3sB.some_ {w w' : World} {T n : Nat} {v : Value} {xs : List R3} {b : Bool} (h : w'.ownsRow w.heap.size T 3 v n (xs.flatMap R3.cs)) (hx : xs.length = n) (hn : n ≤ 1048576) (hb : Below w.heap.size w w') : R3sB w xs b (.returned (.tuple #[v, .bool b])) w' := by
  obtain ⟨A, c, rfl, ho⟩ := OR3_of_own h hx
  exact ⟨A, n, c, rfl, ho, hn, hb⟩
theorem Sup.cs_len (r : Sup) : r.cs.length = 3 := rfl
theorem OSup_of_own {w' : World} {base T n : Nat} {v : Value} {xs : List Sup} (h : w'.ownsRow base T 3 v n (xs.flatMap Sup.cs)) (hx : xs.length = n) : ∃ A c, v = .slice A n c ∧ OSup w' base w'.heap.size A n xs := by
  rcases h.2 with ⟨rfl, rfl⟩ | ⟨g, cap, cur, rfl, hb, hg, hnc, _, hs, ht⟩
  · exact ⟨_, _, rfl, hx, fun h => absurd h (by omega)⟩
  · refine ⟨_, _, rfl, hx, fun _ => ⟨g, T, cur, rfl, hb, (Array.getElem?_eq_some_iff.1 hg).1, hg, by rw [hs]; exact Nat.mul_le_mul_right _ hnc, fun i r hi => ?_⟩⟩
    have hin : i < n := by have := (List.getElem?_eq_some_iff.1 hi).1; omega
    have key : ∀ j, j < 3 → cur[i * 3 + j]? = r.cs[j]? := fun j hj => by
      have e1 : (cur.toList.take (n * 3))[i * 3 + j]? = (xs.flatMap Sup.cs)[i * 3 + j]? := by rw [ht]
      rw [List.getElem?_take, if_pos (by omega), flat_at Sup.cs_len xs i j r hi hj] at e1
      simpa using e1
    exact ⟨key 0 (by omega), key 1 (by omega), key 2 (by omega)⟩
/-- What a call hands back: a slice that reads as the list, new or empty, and a bool. -/
def SupsB (w : World) (xs : List Sup) (b : Bool) (e : Ending) (w' : World) : Prop :=
  ∃ A m d, e = .returned (.tuple #[.slice A m d, .bool b]) ∧ OSup w' w.heap.size w'.heap.size A m xs ∧ m ≤ 1048576 ∧ Below w.heap.size w w'
def GSup (P : Program) (f : FuncId) (args : Array Value) (w : World) (r : List Sup × Bool) : Prop := Calls P f args w (SupsB w r.1 r.2)
theorem SupsB.none_ {w w' : World} {A : Option Addr} {d : Nat} (hb : Below w.heap.size w w') : SupsB w [] false (.returned (.tuple #[.slice A 0 d, .bool false])) w' := ⟨A, 0, d, rfl, ⟨rfl, fun h => absurd h (by omega)⟩, by omega, hb⟩
theorem SupsB.some_ {w w' : World} {T n : Nat} {v : Value} {xs : List Sup} {b : Bool} (h : w'.ownsRow w.heap.size T 3 v n (xs.flatMap Sup.cs)) (hx : xs.length = n) (hn : n ≤ 1048576) (hb : Below w.heap.size w w') : SupsB w xs b (.returned (.tuple #[v, .bool b])) w' := by
  obtain ⟨A, c, rfl, ho⟩ := OSup_of_own h hx
  exact ⟨A, n, c, rfl, ho, hn, hb⟩
theorem R5.cs_len (r : R5) : r.cs.length = 5 := rfl
theorem OR5_of_own {w' : World} {base T n : Nat} {v : Value} {xs : List R5} (h : w'.ownsRow base T 5 v n (xs.flatMap R5.cs)) (hx : xs.length = n) : ∃ A c, v = .slice A n c ∧ OR5 w' base w'.heap.size A n xs := by
  rcases h.2 with ⟨rfl, rfl⟩ | ⟨g, cap, cur, rfl, hb, hg, hnc, _, hs, ht⟩
  · exact ⟨_, _, rfl, hx, fun h => absurd h (by omega)⟩
  · refine ⟨_, _, rfl, hx, fun _ => ⟨g, T, cur, rfl, hb, (Array.getElem?_eq_some_iff.1 hg).1, hg, by rw [hs]; exact Nat.mul_le_mul_right _ hnc, fun i r hi => ?_⟩⟩
    have hin : i < n := by have := (List.getElem?_eq_some_iff.1 hi).1; omega
    have key : ∀ j, j < 5 → cur[i * 5 + j]? = r.cs[j]? := fun j hj => by
      have e1 : (cur.toList.take (n * 5))[i * 5 + j]? = (xs.flatMap R5.cs)[i * 5 + j]? := by rw [ht]
      rw [List.getElem?_take, if_pos (by omega), flat_at R5.cs_len xs i j r hi hj] at e1
      simpa using e1
    exact ⟨key 0 (by omega), key 1 (by omega), key 2 (by omega), key 3 (by omega), key 4 (by omega)⟩
/-- What a call hands back: a slice that reads as the list, new or empty, and a bool. -/
def R5sB (w : World) (xs : List R5) (b : Bool) (e : Ending) (w' : World) : Prop :=
  ∃ A m d, e = .returned (.tuple #[.slice A m d, .bool b]) ∧ OR5 w' w.heap.size w'.heap.size A m xs ∧ m ≤ 1048576 ∧ Below w.heap.size w w'
def GR5 (P : Program) (f : FuncId) (args : Array Value) (w : World) (r : List R5 × Bool) : Prop := Calls P f args w (R5sB w r.1 r.2)
theorem R5sB.none_ {w w' : World} {A : Option Addr} {d : Nat} (hb : Below w.heap.size w w') : R5sB w [] false (.returned (.tuple #[.slice A 0 d, .bool false])) w' := ⟨A, 0, d, rfl, ⟨rfl, fun h => absurd h (by omega)⟩, by omega, hb⟩
theorem R5sB.some_ {w w' : World} {T n : Nat} {v : Value} {xs : List R5} {b : Bool} (h : w'.ownsRow w.heap.size T 5 v n (xs.flatMap R5.cs)) (hx : xs.length = n) (hn : n ≤ 1048576) (hb : Below w.heap.size w w') : R5sB w xs b (.returned (.tuple #[v, .bool b])) w' := by
  obtain ⟨A, c, rfl, ho⟩ := OR5_of_own h hx
  exact ⟨A, n, c, rfl, ho, hn, hb⟩
/-- A row of one element or more has an address. -/
theorem own_slice {w : World} {base T size n : Nat} {v : Value} {xs : List Value} (h : w.ownsRow base T size v n xs) (h0 : 0 < n) : ∃ g cap, v = .slice (some ⟨g, 0, none⟩) n cap ∧ base ≤ g ∧ g < w.heap.size := by
  rcases h.2 with ⟨_, h1⟩ | ⟨g, cap, cur, rfl, hb, hg, _⟩
  · omega
  · exact ⟨g, cap, rfl, hb, (Array.getElem?_eq_some_iff.1 hg).1⟩
end Go.Proofs.YtnibhaabhjgmgaaDoor
