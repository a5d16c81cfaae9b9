/- FnExactParseCabin returns true for all strings. Listed: five tables and two sentinels of the library and one table of the program, tied to the program text. -/
import Derived.Test.YtnibhaabhjgmgaaDoorPCabL
import Derived.Test.YtnibhaabhjgmgaaDoorCabNames
import Derived.Test.YtnibhaabhjgmgaaDoorPostVar
import Derived.Test.YtnibhaabhjgmgaaDoorErrsLaid
import Derived.Lay
import Derived.Test.YtnibhaabhjgmgaaDoorDoor
namespace Go.Proofs.YtnibhaabhjgmgaaDoor
open Go.ChangeShapes Go.WideShapes Go.ChangeAt Go.RowKit
open Go.ChangeMaps (open_string shut_string)
set_option maxRecDepth 100000
set_option linter.unusedVariables false
theorem fnExactParseCabin_lifted (os : Os) (started : os.Started) (H : Type) (enc : TypeId × Value → H) :
    ReturnsInHanded {} Tryd.checked os 4 .any (fun w args => (Rows.fnExactParseCabinSpec.pre enc Tryd.prog Tryd.f4 Rows.fnExactParseCabinRow.domain false w args ∧ laidMetH Tryd.prog Rows.fnExactParseCabinRow.laid w) ∧ sizedMet enc Tryd.prog Tryd.f4 (OpenSpec.ofChange Rows.fnExactParseCabinSpec) false w args) (Rows.fnExactParseCabinSpec.post enc Tryd.prog Tryd.f4 false true false false) := by
  refine handed_and_shaped (C := Tryd.checked) (X := fun w _ => laidMetH Tryd.prog Rows.fnExactParseCabinRow.laid w) (fun _ _ _ hh h => h.of_heap hh) own_knob started (by kernel_rfl) Tryd.func4
    (ChangeSpec.witness_shaped (enc := enc) (C := Tryd.checked) (os := os) (X := fun w _ => laidMetH Tryd.prog Rows.fnExactParseCabinRow.laid w) false (World.laidAll Tryd.prog os Rows.fnExactParseCabinRow.laid) #[.string ByteArray.empty] 8 (World.laidAll_os _ _ _) (World.shaped_of_ZipB (by kernel_rfl) (by kernel_rfl)) (by kernel_rfl) (by kernel_rfl) (by kernel_rfl) (by rw [MakeChecks.laidMetH_plain _ _ _ (by kernel_rfl)]; exact laidMet_laidAll _ (by kernel_rfl) (by kernel_rfl))) ?_
  intro W base args ds gs before hval0 hW hcnd _ hL hsh _
  have ht := tab_of_laid hL (by kernel_rfl)
  have he := errs_of_laid hL (by kernel_rfl) (by kernel_rfl)
  have hm := mx_of_shape hsh
  have hN := nm_of_laid hL (by kernel_rfl)
  have hval : ∀ (j : Nat) t v, Tryd.f4.params[j]? = some t → args[j]? = some v → Value.okWide Tryd.prog W .any base t v := hval0
  have hW' := hW
  obtain ⟨p, q, hA0, hV, rfl, hfz, hnd⟩ := hW
  have hA : DataW.TrodAll enc Tryd.prog W 0 (fun _ => true) true Tryd.f4.params.toList args.toList ds p := hA0
  rw [Tryd.params4] at hA hval
  obtain ⟨v0, vs0, d0, ds0, p0, q0, hargs, rfl, rfl, h0, r0⟩ := trodAll_cons hA
  obtain ⟨rfl, rfl, rfl⟩ := trodAll_nil r0
  obtain rfl : args = #[v0] := by cases args; simp_all
  obtain ⟨_, _, _, _, dg, pg, rfl, -, -, -, -, rfl⟩ := trodVars_one hV
  obtain ⟨a0, rfl, -, -, wf0⟩ := open_string Tryd.underlying9 (hval 0 9 v0 rfl rfl) h0
  clear hA0 hval0
  refine Calls.mono (law_ParseCabin a0 W wf0 ht he hm hN) fun e W' ⟨he, hb⟩ => ?_
  subst he
  exact ⟨_, rfl, law_post1 (tb := 4) (t0 := 43) (g0 := 0) hW' rfl (by kernel_rfl) (by kernel_rfl) (by kernel_rfl) (of_decide_eq_true (by kernel_rfl)) (by kernel_rfl) (by kernel_rfl) rfl rfl rfl (by kernel_rfl) Tryd.underlying4 hb⟩

/-- The given statement. -/
theorem fnExactParseCabin_row : Rows.fnExactParseCabinRow.holds Tryd.pinned (OpenSpec.ofChange Rows.fnExactParseCabinSpec) :=
  OpenClaim.holds_of_wide 4 Tryd.f4 rfl rfl rfl rfl rfl rfl rfl ⟨rfl, rfl, rfl, rfl, rfl⟩ rfl rfl rfl rfl rfl (by kernel_rfl) Tryd.func4 (by kernel_rfl)
    (of_decide_eq_true (by kernel_rfl)) (by unfold Func.isWrapper; first | (rw [if_pos (by decide +kernel)]; kernel_rfl) | (rw [if_neg (by decide +kernel)]; exact ⟨rfl, rfl⟩))
    (fun os started H enc _ => fnExactParseCabin_lifted os started H enc)
/-- The given statement: the tied card. -/
theorem fnExactParseCabin_holds : Rows.FnExactParseCabinCardSaid :=
  Claim7.holds_tied_plain_at .later [] [.data, .data, .data, .data, .sentinel, .sentinel, .widerDeep, .pinned] true Rows.fnExactParseCabinCard.stood.harness true
    fnExactParseCabin_row (fun _ h => by cases h) (by kernel_rfl) (fun _ h => by cases h) fnExactParseCabin_row_tie rfl ⟨rfl, rfl⟩ (by kernel_rfl) rfl
    (fun f fn hf hfn => by
      obtain rfl : f = 4 := Option.some.inj ((show Tryd.prog.funcNamed Rows.fnExactParseCabinRow.func = some 4 by kernel_rfl).symm.trans hf) |>.symm
      obtain rfl : fn = Tryd.f4 := (Option.some.inj (Tryd.func4.symm.trans hfn)).symm
      exact ⟨by kernel_rfl, fun j t ht => by
        have hall : (Tryd.f4.params.toList.all fun u => !Tryd.prog.wantsStandIn u) = true := by kernel_rfl
        have hm : t ∈ Tryd.f4.params.toList := by simpa using Array.mem_of_getElem? ht
        exact (show Tryd.prog.wantsStandIn t = false by simpa using List.all_eq_true.1 hall t hm)⟩)
    (by kernel_rfl)
#print axioms fnExactParseCabin_holds
end Go.Proofs.YtnibhaabhjgmgaaDoor
