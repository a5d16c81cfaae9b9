/- A call that hands back the tensions, in its two ways. -/
import Derived.Test.YtppgfgklnfpgdaaUpDown
import Derived.Test.YtppgfgklnfpgdaaRegion
namespace Go.Proofs.Ytppgfgklnfpgdaa
open Go.RowKit
theorem tensF_f {u : Int} {xs : List Sup} {x : R3} (h : (okLine xs && (isCase x && tensOk xs x u xs.length)) = false) : tensF u xs x = ([], false) := by unfold tensF; rw [h]; rfl
theorem tensF_t {u : Int} {xs : List Sup} {x : R3} {n : Nat} (h : (okLine xs && (isCase x && tensOk xs x u xs.length)) = true) (hn : xs.length = n) : tensF u xs x = (tens xs x u n, true) := by unfold tensF; rw [h, if_pos rfl, hn]
def upB (u : Int) (xs : List Sup) (x : R3) : Bool := okLine xs && (isCase x && tensOk xs x u xs.length)
theorem upB_t {u : Int} {xs : List Sup} {x : R3} (h : upB u xs x = true) : LineOk xs ∧ isCase x = true ∧ okLine xs = true := by
  simp only [upB, Bool.and_eq_true] at h
  exact ⟨line_ok h.1, h.2.1, h.1⟩
/-- The call to hand back the tensions, in its two ways. -/
theorem up_no {P : Program} {f : FuncId} {args : Array Value} {w : World} {u : Int} {xs : List Sup} {x : R3} (h : GI P f args w (tensF u xs x)) (hb : upB u xs x = false) :
    Calls P f args w fun e w' => (∃ A d, e = .returned (.tuple #[.slice A 0 d, .bool false])) ∧ Below w.heap.size w w' := by
  rw [tensF_f hb] at h
  refine Calls.mono h fun e w' he => ?_
  obtain ⟨A, m, d, rfl, ho, -, hbw⟩ := he
  obtain rfl : m = 0 := by simpa using ho.1.symm
  exact ⟨⟨A, d, rfl⟩, hbw⟩
theorem up_yes {P : Program} {f : FuncId} {args : Array Value} {w : World} {u : Int} {xs : List Sup} {x : R3} {n : Nat} (h : GI P f args w (tensF u xs x)) (hb : upB u xs x = true) (hn : xs.length = n) (h0 : 0 < n) :
    Calls P f args w fun e w' => (∃ g d, e = .returned (.tuple #[.slice (some ⟨g, 0, none⟩) n d, .bool true]) ∧ w.heap.size ≤ g ∧ g < w'.heap.size ∧ ∀ i, i < n → w'.cell? ⟨g, i, none⟩ = some (.int .i64 (tenAt xs x u i))) ∧ Below w.heap.size w w' := by
  rw [tensF_t hb hn] at h
  refine Calls.mono h fun e w' he => ?_
  obtain ⟨A, m, d, rfl, ho, -, hbw⟩ := he
  obtain rfl : m = n := by have := ho.1; rw [tens_len] at this; exact this.symm
  obtain ⟨g, rfl, h1, h2, _, _, hc⟩ := ho.cells h0
  exact ⟨⟨g, d, rfl, h1, h2, fun i hi => hc i _ (tens_at xs x u hi)⟩, hbw⟩
end Go.Proofs.Ytppgfgklnfpgdaa
