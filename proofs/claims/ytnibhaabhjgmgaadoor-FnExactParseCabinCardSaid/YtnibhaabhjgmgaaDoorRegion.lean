/- Regions that draw their order: what only reads is taken first, in the order of the text; what is left is gone through in each order. No program in sight. -/
import Derived.StillTail
import Derived.Test.YtnibhaabhjgmgaaDoorLib
namespace Go.Proofs.YtnibhaabhjgmgaaDoor
open Go Go.RowKit
section
variable {P : Program} {ops : Array Oper} {md : Region.Mode} {C : World → Prop} {Q Q' : Exit → Act → World → Prop}
theorem size_alloc_le (w : World) (o : Obj) : w.heap.size ≤ (w.alloc o).heap.size := by simp
/-- Whatever order is picked from here on; every world on the way is of the class. -/
def wpAnyC (P : Program) (md : Region.Mode) (ops : Array Oper) (C : World → Prop) (Q : Exit → Act → World → Prop) : Nat → Array Bool → Act → World → Prop
  | 0, listed, a, w => C w ∧ Region.ready md ops listed = [] ∧ Q .normal a w
  | fuel + 1, listed, a, w => C w ∧ Region.ready md ops listed ≠ [] ∧ ∀ i ∈ Region.ready md ops listed, wpOp P ops Q i (wpAnyC P md ops C Q fuel (listed.setIfInBounds i true)) a w
theorem wpAny_of_C : ∀ (fuel : Nat) (listed : Array Bool) (a : Act) (w : World), wpAnyC P md ops C Q fuel listed a w → wpAny P md ops Q fuel listed a w
  | 0, _, _, _, h => h.2
  | fuel + 1, _, _, _, h => ⟨fun h0 => absurd h0 h.2.1, fun i hi => wpOp_mono (fun a' w' h' => wpAny_of_C fuel _ a' w' h') (h.2.2 i hi)⟩
/-- In every world of the class the operation yields v and leaves that very world. -/
def YieldsC (P : Program) (ops : Array Oper) (C : World → Prop) (o : Oper) (v : Value) (a : Act) : Prop :=
  (Region.wanted o (yielded ops a.tmps) = true ∧ ∀ w, C w → o.quietAt P a (fun w' => w' = w) w v) ∨
  (Region.wanted o (yielded ops a.tmps) = false ∧ v = undef)
theorem YieldsC.wpOp {i : Nat} {o : Oper} {v : Value} {a : Act} (hi : ops[i]? = some o) (hy : YieldsC P ops C o v a)
    {K : Act → World → Prop} {w : World} (hw : C w) (h : K (a.put o.dst v) w) : wpOp P ops Q i K a w := by
  unfold Go.wpOp
  simp only [hi]
  rcases hy with ⟨hwt, hv⟩ | ⟨hwt, rfl⟩
  · simp only [hwt, if_true]
    refine .inl ?_
    have h3 := hv w hw
    unfold Oper.quietAt at h3
    unfold Oper.wp
    generalize (execOp a.eval o).run P w = r at *
    cases r with
    | ok n w' =>
      cases n <;> simp only [Oper.quietUpon] at h3 <;> simp only [Oper.upon]
      case value u =>
        obtain ⟨e1, e2⟩ := h3
        rw [e1, e2]
        exact h
      case skip =>
        obtain ⟨e1, e2⟩ := h3
        rw [e1, ← e2]
        exact h
      case enter f args =>
        obtain ⟨e1, hc⟩ := h3
        rw [e1]
        exact hc.mono fun e w'' ⟨he, hw''⟩ => by subst he; rw [hw'']; exact h
    | halt x w' => simp only [Oper.quietUpon] at h3
  · simp only [hwt, Bool.false_eq_true, if_false]; exact h
theorem YieldsC.of_same {o : Oper} {v : Value} {a a' : Act} (hy : YieldsC P ops C o v a) (he : execOp a'.eval o = execOp a.eval o)
    (hw : Region.wanted o (yielded ops a'.tmps) = Region.wanted o (yielded ops a.tmps)) : YieldsC P ops C o v a' := by
  unfold YieldsC Oper.quietAt at *
  rw [he, hw]
  exact hy
theorem wpOp_putC {j : Nat} {oi oj : Oper} {v : Value} (hj : ops[j]? = some oj) (hap : oi.apart ops oj = true)
    (hsi : ∀ cs b, oi.op ≠ .select cs b) (hsj : ∀ cs b, oj.op ≠ .select cs b)
    (hQ : ∀ c a w, Q (.panic c) (a.put oi.dst v) w → Q (.panic c) a w) {K : Act → World → Prop} {a : Act} {w : World}
    (hy : YieldsC P ops C oi v a) (h : wpOp P ops Q j K (a.put oi.dst v) w) :
    wpOp P ops Q j (fun a' w' => YieldsC P ops C oi v a' ∧ K (a'.put oi.dst v) w') a w := by
  obtain ⟨h1, h2, h3⟩ := Oper.apart_spec hap
  have keep : ∀ (a : Act), YieldsC P ops C oi v a → ∀ u, YieldsC P ops C oi v (a.put oj.dst u) := fun a hy u =>
    hy.of_same (execOp_put oi hsi a oj.dst u h3) (wanted_put oi a oj.dst u h3)
  have keepD : ∀ d, YieldsC P ops C oi v { a with defers := d :: a.defers } := fun d => hy.of_same rfl rfl
  unfold wpOp at *
  simp only [hj] at *
  rw [wanted_put oj a oi.dst v h1] at h
  split
  · rename_i hw
    simp only [hw, if_true] at h
    rcases h with h | ⟨hasks, hlets⟩
    case inr => exact .inr ⟨by unfold Oper.asks at *; rw [execOp_put oj hsj a oi.dst v h1] at hasks; exact hasks, hlets⟩
    refine .inl ?_
    unfold Oper.wp at *
    rw [execOp_put oj hsj a oi.dst v h1] at h
    generalize (execOp a.eval oj).run P w = r at *
    cases r with
    | ok n w' =>
      cases n <;> simp only [Oper.upon] at h ⊢
      case value u => exact ⟨keep a hy u, by rw [← Act.put_comm a v u h2]; exact h⟩
      case skip => exact ⟨keep a hy _, by rw [← Act.put_comm a v undef h2]; exact h⟩
      case defer d =>
        refine ⟨keep _ (keepD d) _, ?_⟩
        rw [← Act.put_comm _ v undef h2, ← Act.put_defers]
        exact h
      case enter f args =>
        refine Calls.mono h fun e w'' he => ?_
        cases e with
        | returned u => exact ⟨keep a hy u, by rw [← Act.put_comm a v u h2]; exact he⟩
        | panicked c => exact hQ _ _ _ he
        | outgrown => exact he
      case row row args => exact Rows.mono h fun u w'' he => ⟨keep a hy u, by rw [← Act.put_comm a v u h2]; exact he⟩
    | halt x w' =>
      cases x <;> simp only [Oper.upon] at h ⊢
      case panic u => exact hQ _ _ _ h
  · rename_i hw
    simp only [hw] at h
    exact ⟨keep a hy _, by rw [← Act.put_comm a v undef h2]; exact h⟩
theorem wpAnyC_first {i : Nat} {oi : Oper} {v : Value} (hi : ops[i]? = some oi) (hsel : ∀ (j : Nat) (o : Oper) cs b, ops[j]? = some o → o.op ≠ .select cs b)
    (hQ : ∀ c a w, Q (.panic c) (a.put oi.dst v) w → Q (.panic c) a w) :
    ∀ (fuel : Nat) (listed : Array Bool) (a : Act) (w : World), C w →
      (∀ j oj, ops[j]? = some oj → j ≠ i → listed.getD j true = false → (∀ e ∈ oj.after, Region.binds md e = true → e.on ≠ i) → oi.apart ops oj = true) →
      i ∈ Region.ready md ops listed → YieldsC P ops C oi v a →
      wpAnyC P md ops C Q fuel (listed.setIfInBounds i true) (a.put oi.dst v) w → wpAnyC P md ops C Q (fuel + 1) listed a w := by
  intro fuel
  induction fuel with
  | zero =>
    intro listed a w hC _ hr hy H
    refine ⟨hC, fun h => (by rw [h] at hr; cases hr), fun j hj => ?_⟩
    by_cases hji : j = i
    · subst hji; exact hy.wpOp hi hC H
    · have := ready_mono hj hji
      rw [H.2.1] at this
      cases this
  | succ fuel ih =>
    intro listed a w hC hfree hr hy H
    refine ⟨hC, fun h => (by rw [h] at hr; cases hr), fun j hj => ?_⟩
    by_cases hji : j = i
    · subst hji; exact hy.wpOp hi hC H
    · have h1 := H.2.2 j (ready_mono hj hji)
      obtain ⟨hjun, oj, hoj, hall⟩ := mem_ready.1 hj
      have hnot : ∀ e ∈ oj.after, Region.binds md e = true → e.on ≠ i := fun e he hb heq => by
        have h1 := hall e he hb
        have h0 := (mem_ready.1 hr).1
        rw [heq] at h1
        rcases Nat.lt_or_ge i listed.size with h' | h'
        · simp [h'] at h0 h1; rw [h0] at h1; cases h1
        · simp [Array.getElem?_eq_none h'] at h1
      have h2 := wpOp_putC hoj (hfree j oj hoj hji hjun hnot) (fun cs b => hsel i oi cs b hi) (fun cs b => hsel j oj cs b hoj) hQ hy h1
      have hfree' : ∀ k ok, ops[k]? = some ok → k ≠ i → (listed.setIfInBounds j true).getD k true = false →
          (∀ e ∈ ok.after, Region.binds md e = true → e.on ≠ i) → oi.apart ops ok = true := fun k ok hk hki hun hno => by
        refine hfree k ok hk hki ?_ hno
        by_cases hjk : j = k
        · subst hjk; exact hjun
        · rw [getD_set_ne true hjk] at hun; exact hun
      have hi' : i ∈ Region.ready md ops (listed.setIfInBounds j true) := ready_mono hr (Ne.symm hji)
      refine wpOp_mono (fun a' w' h3 => ?_) h2
      have h4 : wpAnyC P md ops C Q fuel ((listed.setIfInBounds j true).setIfInBounds i true) (a'.put oi.dst v) w' := by
        rw [Array.setIfInBounds_comm _ _ hji]
        exact h3.2
      have hC' : C w' := by cases fuel <;> exact h4.1
      exact ih (listed.setIfInBounds j true) a' w' hC' hfree' hi' h3.1 h4
theorem wpOp_monoQ {i : Nat} {a : Act} {w : World} {K : Act → World → Prop} (h : ∀ e a w, Q e a w → Q' e a w) (hh : wpOp P ops Q i K a w) : wpOp P ops Q' i K a w := by
  unfold wpOp at *
  split
  · rename_i ho
    simp only [ho] at hh
    exact hh
  · rename_i o ho
    simp only [ho] at hh
    split
    · rename_i hw
      simp only [hw, if_true] at hh
      rcases hh with hh | ⟨h1, a', w', h2⟩
      case inr => exact .inr ⟨h1, a', w', h _ _ _ h2⟩
      refine .inl ?_
      unfold Oper.wp at *
      generalize (execOp a.eval o).run P w = r at *
      cases r with
      | ok n w' =>
        cases n <;> simp only [Oper.upon] at hh ⊢
        case enter f args =>
          refine Calls.mono hh fun e w'' he => ?_
          cases e with
          | returned u => exact he
          | panicked c => exact h _ _ _ he
          | outgrown => obtain ⟨a', w', h2⟩ := he; exact ⟨a', w', h _ _ _ h2⟩
        all_goals exact hh
      | halt x w' =>
        cases x <;> simp only [Oper.upon] at hh ⊢
        case panic u => exact h _ _ _ hh
    · rename_i hw
      simp only [hw] at hh
      exact hh
/-- What is asked at the end alone. -/
def nrm (K : Act → World → Prop) : Exit → Act → World → Prop
  | .normal, a, w => K a w
  | _, _, _ => False
theorem wpAny_monoQ (h : ∀ e a w, Q e a w → Q' e a w) : ∀ (fuel : Nat) (listed : Array Bool) (a : Act) (w : World), wpAny P md ops Q fuel listed a w → wpAny P md ops Q' fuel listed a w
  | 0, _, _, _, hh => ⟨hh.1, h _ _ _ hh.2⟩
  | fuel + 1, _, _, _, hh => ⟨fun h0 => h _ _ _ (hh.1 h0), fun i hi => wpOp_monoQ h (wpOp_mono (fun a' w' h' => wpAny_monoQ h fuel _ a' w' h') (hh.2 i hi))⟩
/-- A region that draws its order. -/
theorem wp_region_C {id : Nat} {a : Act} {w : World} {l : List Oper} (C : World → Prop) (hm : P.follows .mixedOrders = true)
    (h : wpAnyC P .any l.toArray C (nrm (Q .normal)) l.length (Array.replicate l.length false) a w.drew) : (Code.region id l.toArray true).wp P Q a w := by
  refine wp_region_any hm ?_
  have := wpAny_monoQ (Q' := Q) (fun e a w he => by cases e <;> first | exact he | exact he.elim) _ _ _ _ (wpAny_of_C _ _ _ _ h)
  simpa using this
theorem at_drop {l rest : List Oper} {i : Nat} {o : Oper} (h : l.drop i = o :: rest) : l.toArray[i]? = some o := by
  have : (l.drop i)[0]? = some o := by rw [h]; rfl
  rw [List.getElem?_drop] at this
  simpa using this
/-- An operation that reads is taken first. -/
theorem step_read {l rest : List Oper} {w0 : World} {K : Act → World → Prop} {i fuel : Nat} {o : Oper} {listed : Array Bool} {a : Act} {w : World} (hs : Region.noSelect l.toArray = true) (hf : ((Region.ready md l.toArray listed).contains i && Region.free md l.toArray listed i) = true) (hi0 : l.drop i = o :: rest)
    (hC : Below w0.heap.size w0 w) (hwt : Region.wanted o (yielded l.toArray a.tmps) = true)
    (h0 : ∀ K' : Act → Prop, (∀ a, wpAnyC P md l.toArray (Below w0.heap.size w0) (nrm K) fuel (listed.setIfInBounds i true) a w → K' a) → ∃ v, (∀ x : Lat w0, (execOp a.eval o).run P (later w0 x) = .ok (.value v) (later w0 x)) ∧ K' (a.put o.dst v)) : wpAnyC P md l.toArray (Below w0.heap.size w0) (nrm K) (fuel + 1) listed a w := by
  have hi := at_drop hi0
  obtain ⟨v, hrun, h⟩ := h0 _ fun _ h => h
  simp only [Bool.and_eq_true] at hf
  refine wpAnyC_first hi (Region.noSelect_spec hs) (fun _ _ _ h => h.elim) fuel listed a w hC (Region.free_spec hi hf.2) (by simpa using hf.1) (.inl ⟨hwt, fun w' hw' => ?_⟩) h
  obtain ⟨x, rfl⟩ := exists_later hw'
  unfold Oper.quietAt
  rw [hrun x]
  exact ⟨rfl, rfl⟩
/-- A call that leaves the world as it was is taken first. -/
theorem step_same {l rest : List Oper} {w0 : World} {K : Act → World → Prop} {i fuel : Nat} {o : Oper} {listed : Array Bool} {a : Act} {w : World} (hs : Region.noSelect l.toArray = true) (hf : ((Region.ready md l.toArray listed).contains i && Region.free md l.toArray listed i) = true) (hi0 : l.drop i = o :: rest)
    (hC : Below w0.heap.size w0 w) (hwt : Region.wanted o (yielded l.toArray a.tmps) = true)
    (h0 : ∀ K' : Act → Prop, (∀ a, wpAnyC P md l.toArray (Below w0.heap.size w0) (nrm K) fuel (listed.setIfInBounds i true) a w → K' a) →
      ∃ f args, (∀ x : Lat w0, (execOp a.eval o).run P (later w0 x) = .ok (.enter f args) (later w0 x)) ∧ ∃ v, (∀ x : Lat w0, Calls P f args (later w0 x) fun e w'' => e = .returned v ∧ w'' = later w0 x) ∧ K' (a.put o.dst v)) : wpAnyC P md l.toArray (Below w0.heap.size w0) (nrm K) (fuel + 1) listed a w := by
  have hi := at_drop hi0
  obtain ⟨f, args, hrun, v, hc, h⟩ := h0 _ fun _ h => h
  simp only [Bool.and_eq_true] at hf
  refine wpAnyC_first hi (Region.noSelect_spec hs) (fun _ _ _ h => h.elim) fuel listed a w hC (Region.free_spec hi hf.2) (by simpa using hf.1) (.inl ⟨hwt, fun w' hw' => ?_⟩) h
  obtain ⟨x, rfl⟩ := exists_later hw'
  unfold Oper.quietAt
  rw [hrun x]
  exact ⟨rfl, hc x⟩
theorem wpOp_of_list {i : Nat} {o : Oper} {a : Act} {w : World} {K K' : Act → World → Prop} (hi : ops[i]? = some o) (h : wpList P ops (Exit.then K' (fun _ _ _ => False)) [o] a w) : wpOp P ops (nrm K) i K' a w := by
  unfold wpOp
  simp only [hi]
  unfold wpList at h
  split
  · rename_i hw
    simp only [hw, if_true] at h
    rcases h with h | ⟨_, a', w', h2⟩
    case inr => exact h2.elim
    refine .inl ?_
    unfold Oper.wp at *
    generalize (execOp a.eval o).run P w = r at *
    cases r with
    | ok n w' =>
      cases n <;> simp only [Oper.upon] at h ⊢
      case enter f args =>
        refine Calls.mono h fun e w'' he => ?_
        cases e with
        | returned u => exact he
        | panicked c => exact he.elim
        | outgrown => obtain ⟨a', w', h2⟩ := he; exact h2.elim
      all_goals exact h
    | halt x w' =>
      cases x <;> simp only [Oper.upon] at h ⊢
      case panic u => exact h.elim
  · rename_i hw
    simp only [hw] at h
    exact h
/-- One operation alone may come next. -/
theorem step_one {l rest : List Oper} {K : Act → World → Prop} {i fuel : Nat} {o : Oper} {listed : Array Bool} {a : Act} {w : World} (hr : Region.ready md l.toArray listed = [i]) (hi0 : l.drop i = o :: rest) (hC : C w)
    (h : ∀ K' : Act → World → Prop, (∀ a w, wpAnyC P md l.toArray C (nrm K) fuel (listed.setIfInBounds i true) a w → K' a w) → wpList P l.toArray (Exit.then K' (fun _ _ _ => False)) [o] a w) : wpAnyC P md l.toArray C (nrm K) (fuel + 1) listed a w := by
  have hi := at_drop hi0
  refine ⟨hC, by rw [hr]; simp, fun j hj => ?_⟩
  rw [hr] at hj
  obtain rfl : j = i := by simpa using hj
  exact wpOp_of_list hi (h _ fun _ _ h => h)
/-- One of two operations comes next. -/
theorem step_two {l rest rest' : List Oper} {K : Act → World → Prop} {i i' fuel : Nat} {o o' : Oper} {listed : Array Bool} {a : Act} {w : World} (hr : Region.ready md l.toArray listed = [i, i']) (hi0 : l.drop i = o :: rest) (hi0' : l.drop i' = o' :: rest') (hC : C w)
    (h : ∀ K' : Act → World → Prop, (∀ a w, wpAnyC P md l.toArray C (nrm K) fuel (listed.setIfInBounds i true) a w → K' a w) → wpList P l.toArray (Exit.then K' (fun _ _ _ => False)) [o] a w)
    (h' : ∀ K' : Act → World → Prop, (∀ a w, wpAnyC P md l.toArray C (nrm K) fuel (listed.setIfInBounds i' true) a w → K' a w) → wpList P l.toArray (Exit.then K' (fun _ _ _ => False)) [o'] a w) : wpAnyC P md l.toArray C (nrm K) (fuel + 1) listed a w := by
  have hi := at_drop hi0
  have hi' := at_drop hi0'
  refine ⟨hC, by rw [hr]; simp, fun j hj => ?_⟩
  rw [hr] at hj
  have hj' : j = i ∨ j = i' := by simpa using hj
  rcases hj' with rfl | rfl
  · exact wpOp_of_list hi (h _ fun _ _ h => h)
  · exact wpOp_of_list hi' (h' _ fun _ _ h => h)
theorem step_end {K : Act → World → Prop} {listed : Array Bool} {a : Act} {w : World} (hr : Region.ready md ops listed = []) (hC : C w) (h : K a w) : wpAnyC P md ops C (nrm K) 0 listed a w := ⟨hC, hr, h⟩
end
end Go.Proofs.YtnibhaabhjgmgaaDoor
