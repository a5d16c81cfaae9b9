/- Texts joined: the library's function, as the shelf tells it. -/
import Derived.Test.YteakffedlojcmaaDoorRows
import Derived.Test.YteakffedlojcmaaDoorLib
import Derived.Test.YteakffedlojcmaaDoorSplitL
import Derived.Test.YteakffedlojcmaaDoorShelfJoin
namespace Go.Proofs.YteakffedlojcmaaDoor
open Go.RowKit
theorem own_later {w : World} {base T size n : Nat} {v : Value} {xs : List Value} (h : w.ownsRow base T size v n xs) (x : Lat w) : (later w x).ownsRow base T size v n xs :=
  h.kept (grown_later w x none) (by cases v.ownBlock <;> simp)
theorem own_drew {w : World} {base T size n : Nat} {v : Value} {xs : List Value} (h : w.ownsRow base T size v n xs) : w.drew.ownsRow base T size v n xs := own_of_heap rfl h
theorem own_form {w : World} {base T size n : Nat} {v : Value} {xs : List Value} (h : w.ownsRow base T size v n xs) (h0 : 0 < n) : ∃ g cap, v = .slice (some ⟨g, 0, none⟩) n cap ∧ base ≤ g ∧ g < w.heap.size ∧ n ≤ cap := by
  rcases h.2 with ⟨_, h1⟩ | ⟨g, cap, cur, rfl, hb, hg, hnc, _⟩
  · omega
  · exact ⟨g, cap, rfl, hb, (Array.getElem?_eq_some_iff.1 hg).1, hnc⟩
theorem join_any (g cap n : Nat) (ps : List ByteArray) (sep : ByteArray) (base : Nat) (w : World) (hn : ps.length = n) (hown : w.ownsRow base 9 1 (.slice (some ⟨g, 0, none⟩) n cap) n (ps.map Value.string)) (hg : g < w.heap.size) (hc : n ≤ cap) (hN : n ≤ 1048576)
    (hl : (Lib.join (ps.map (·.data.toList)) sep.data.toList).length ≤ 140737488355328) :
    Gv Tryd.prog 60 #[.slice (some ⟨g, 0, none⟩) n cap, .string sep] w (.string (mkB (Lib.join (ps.map (·.data.toList)) sep.data.toList))) := by
  subst hn
  have hcell := hown.cells (g := g) rfl
  exact Tryd.strings_Join g 0 cap ps sep w (fun j x hj => by
    have h1 := hcell j (.string x) (by rw [List.getElem?_map, hj]; rfl)
    have e1 : (⟨g, 0, none⟩ : Addr).add j = ⟨g, 0 + j, none⟩ := by unfold Addr.add; split <;> simp_all
    rw [e1] at h1
    exact h1) hg (by omega) hc hl
end Go.Proofs.YteakffedlojcmaaDoor
