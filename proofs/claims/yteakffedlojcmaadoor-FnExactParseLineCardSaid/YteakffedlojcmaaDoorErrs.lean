/- Two of the library's sentinels, as the worlds on the way hold them; a text read as a number by the library, as the shelf tells it. -/
import Derived.Test.YteakffedlojcmaaDoorRows
import Derived.Test.YteakffedlojcmaaDoorReadL
import Derived.Test.YteakffedlojcmaaDoorShelfAtoi
import Derived.Lib.SmallJoins
namespace Go.Proofs.YteakffedlojcmaaDoor
open Go.RowKit
theorem var_keep {P : Program} {w w' : World} {name : String} {cs : Array Value} (h : w.var? P name = some cs) (hb : Below w.heap.size w w') : w'.var? P name = some cs := by
  unfold World.var? at *
  cases hg : P.globalNamed name with
  | none => simp [hg] at h
  | some g =>
    simp only [hg, Option.bind_some] at h ⊢
    have hlt : g < w.heap.size := by
      rcases Nat.lt_or_ge g w.heap.size with h' | h'
      · exact h'
      · rw [Array.getElem?_eq_none h'] at h; simp at h
    rw [hb.block g hlt]
    exact h
def Ers (w : World) : Prop := (∃ tp p, w.var? Tryd.prog "strconv.ErrSyntax" = some #[.iface tp p]) ∧ (∃ tp p, w.var? Tryd.prog "strconv.ErrRange" = some #[.iface tp p])
theorem Ers.keep {w w' : World} (h : Ers w) (hb : Below w.heap.size w w') : Ers w' := by
  obtain ⟨⟨t1, p1, h1⟩, t2, p2, h2⟩ := h
  exact ⟨⟨t1, p1, var_keep h1 hb⟩, t2, p2, var_keep h2 hb⟩
theorem Ers.later {w : World} (h : Ers w) (x : Lat w) : Ers (later w x) := h.keep (later_below w x)
theorem Ers.alloc {w : World} (h : Ers w) (o : Obj) : Ers (w.alloc o) := h.keep (bw_alloc (Below.refl _ _) o)
theorem atoi_ok {s : ByteArray} (hs : s.size ≤ 7) {v : Int} (h : Lib.atoiAll s.data.toList = .ok v) (w : World) : Gv Tryd.prog 45 #[.string s] w (.tuple #[.int .i64 v, .nilIface]) :=
  Calls.mono (Tryd.strconv_Atoi_ok s (by omega) v h w) fun _ w' ⟨he, hw⟩ => ⟨he, by
    rcases hw with rfl | ⟨t, rfl⟩
    · exact Below.refl _ _
    · exact Joins.below_bytesWorld _ _ _ _ (Nat.le_refl _)⟩
theorem atoi_bad {s : ByteArray} (hs : s.size ≤ 7) (h : ∀ v, Lib.atoiAll s.data.toList ≠ .ok v) (w : World) (he : Ers w) : Calls Tryd.prog 45 #[.string s] w fun e w' => (∃ v T p, e = .returned (.tuple #[.int .i64 v, .iface T p])) ∧ Below w.heap.size w w' := by
  obtain ⟨⟨t1, p1, h1⟩, t2, p2, h2⟩ := he
  cases ha : Lib.atoiAll s.data.toList with
  | ok v => exact absurd ha (h v)
  | range => exact Calls.mono (Tryd.strconv_Atoi_range_var s (by omega) ha t2 p2 w h2) fun _ w' ⟨N, hr, _, _, hb⟩ => ⟨⟨_, _, _, hr⟩, hb⟩
  | _ => exact Calls.mono (Tryd.strconv_Atoi_syntax_var s (by omega) ha t1 p1 w h1) fun _ w' ⟨N, hr, _, _, hb⟩ => ⟨⟨_, _, _, hr⟩, hb⟩
end Go.Proofs.YteakffedlojcmaaDoor
