/- Regions that draw their order and hold calls that make memory beside allocations in any order: the calls are taken first; what is left is gone through in each order, in worlds that may have grown. No program in sight. -/
import Derived.Test.YtkdekpnnnpembaaRegion
namespace Go.Proofs.Ytkdekpnnnpembaa
open Go Go.RowKit
section
variable {P : Program} {ops : Array Oper} {md : Region.Mode} {C : World → Prop} {Q Q' : Exit → Act → World → Prop}
/-- Whatever order is picked from here on, and however the world grows between the operations. -/
def wpAnyR (P : Program) (md : Region.Mode) (ops : Array Oper) (C : World → Prop) (Q : Exit → Act → World → Prop) : Nat → Array Bool → Act → World → Prop
  | 0, listed, a, w => C w ∧ Region.ready md ops listed = [] ∧ ∀ y : Lat w, Q .normal a (later w y)
  | fuel + 1, listed, a, w => C w ∧ Region.ready md ops listed ≠ [] ∧ ∀ y : Lat w, ∀ i ∈ Region.ready md ops listed, wpOp P ops Q i (wpAnyR P md ops C Q fuel (listed.setIfInBounds i true)) a (later w y)
theorem refl_later (w : World) : ∃ y : Lat w, w = later w y := exists_later (Below.refl _ _)
theorem wpAny_of_R : ∀ (fuel : Nat) (listed : Array Bool) (a : Act) (w : World), wpAnyR P md ops C Q fuel listed a w → wpAny P md ops Q fuel listed a w
  | 0, _, _, w, h => by
    obtain ⟨y, hy⟩ := refl_later w
    have := h.2.2 y
    rw [← hy] at this
    exact ⟨h.2.1, this⟩
  | fuel + 1, _, a, w, h => by
    obtain ⟨y, hy⟩ := refl_later w
    refine ⟨fun h0 => absurd h0 h.2.1, fun i hi => ?_⟩
    have := h.2.2 y i hi
    rw [← hy] at this
    exact wpOp_mono (fun a' w' h' => wpAny_of_R fuel _ a' w' h') this
theorem wpAnyR_later (hC : ∀ w, C w → ∀ y : Lat w, C (later w y)) : ∀ (fuel : Nat) (listed : Array Bool) (a : Act) (w : World) (y : Lat w), wpAnyR P md ops C Q fuel listed a w → wpAnyR P md ops C Q fuel listed a (later w y)
  | 0, _, _, w, y, h => ⟨hC w h.1 y, h.2.1, fun y' => by rw [later_comp]; exact h.2.2 _⟩
  | fuel + 1, _, _, w, y, h => ⟨hC w h.1 y, h.2.1, fun y' => by rw [later_comp]; exact h.2.2 _⟩
/-- In every world of the class the operation yields v; the world grows at most. -/
def YieldsR (P : Program) (ops : Array Oper) (C : World → Prop) (o : Oper) (v : Value) (a : Act) : Prop :=
  (Region.wanted o (yielded ops a.tmps) = true ∧ ∀ w, C w → o.quietAt P a (fun w' => ∃ y : Lat w, w' = later w y) w v) ∨
  (Region.wanted o (yielded ops a.tmps) = false ∧ v = undef)
theorem YieldsR.wpOp {i : Nat} {o : Oper} {v : Value} {a : Act} (hi : ops[i]? = some o) (hy : YieldsR P ops C o v a)
    {K : Act → World → Prop} {w : World} (hw : C w) (h : ∀ y : Lat w, K (a.put o.dst v) (later w y)) : wpOp P ops Q i K a w := by
  unfold Go.wpOp
  simp only [hi]
  rcases hy with ⟨hwt, hv⟩ | ⟨hwt, rfl⟩
  · simp only [hwt, if_true]
    refine .inl ?_
    have h3 := hv w hw
    unfold Oper.quietAt at h3
    unfold Oper.wp
    generalize (execOp a.eval o).run P w = r at *
    cases r with
    | ok n w' =>
      cases n <;> simp only [Oper.quietUpon] at h3 <;> simp only [Oper.upon]
      case value u =>
        obtain ⟨e1, e2⟩ := h3
        obtain ⟨y, hy⟩ := refl_later w
        have := h y
        rw [← hy] at this
        rw [e1, e2]
        exact this
      case skip =>
        obtain ⟨e1, e2⟩ := h3
        obtain ⟨y, hy⟩ := refl_later w
        have := h y
        rw [← hy] at this
        rw [e1, ← e2]
        exact this
      case enter f args =>
        obtain ⟨e1, hc⟩ := h3
        rw [e1]
        exact hc.mono fun e w'' ⟨he, y, hw''⟩ => by subst he; rw [hw'']; exact h y
    | halt x w' => simp only [Oper.quietUpon] at h3
  · simp only [hwt, Bool.false_eq_true, if_false]
    obtain ⟨y, hy⟩ := refl_later w
    have := h y
    rw [← hy] at this
    exact this
theorem YieldsR.of_same {o : Oper} {v : Value} {a a' : Act} (hy : YieldsR P ops C o v a) (he : execOp a'.eval o = execOp a.eval o)
    (hw : Region.wanted o (yielded ops a'.tmps) = Region.wanted o (yielded ops a.tmps)) : YieldsR P ops C o v a' := by
  unfold YieldsR Oper.quietAt at *
  rw [he, hw]
  exact hy
theorem wpOp_putR {j : Nat} {oi oj : Oper} {v : Value} (hj : ops[j]? = some oj) (hap : oi.apart ops oj = true)
    (hsi : ∀ cs b, oi.op ≠ .select cs b) (hsj : ∀ cs b, oj.op ≠ .select cs b)
    (hQ : ∀ c a w, Q (.panic c) (a.put oi.dst v) w → Q (.panic c) a w) {K : Act → World → Prop} {a : Act} {w : World}
    (hy : YieldsR P ops C oi v a) (h : wpOp P ops Q j K (a.put oi.dst v) w) :
    wpOp P ops Q j (fun a' w' => YieldsR P ops C oi v a' ∧ K (a'.put oi.dst v) w') a w := by
  obtain ⟨h1, h2, h3⟩ := Oper.apart_spec hap
  have keep : ∀ (a : Act), YieldsR P ops C oi v a → ∀ u, YieldsR P ops C oi v (a.put oj.dst u) := fun a hy u =>
    hy.of_same (execOp_put oi hsi a oj.dst u h3) (wanted_put oi a oj.dst u h3)
  have keepD : ∀ d, YieldsR P ops C oi v { a with defers := d :: a.defers } := fun d => hy.of_same rfl rfl
  unfold Go.wpOp at *
  simp only [hj] at *
  rw [wanted_put oj a oi.dst v h1] at h
  split
  · rename_i hw
    simp only [hw, if_true] at h
    rcases h with h | ⟨hasks, hlets⟩
    case inr => exact .inr ⟨by unfold Oper.asks at *; rw [execOp_put oj hsj a oi.dst v h1] at hasks; exact hasks, hlets⟩
    refine .inl ?_
    unfold Oper.wp at *
    rw [execOp_put oj hsj a oi.dst v h1] at h
    generalize (execOp a.eval oj).run P w = r at *
    cases r with
    | ok n w' =>
      cases n <;> simp only [Oper.upon] at h ⊢
      case value u => exact ⟨keep a hy u, by rw [← Act.put_comm a v u h2]; exact h⟩
      case skip => exact ⟨keep a hy _, by rw [← Act.put_comm a v undef h2]; exact h⟩
      case defer d =>
        refine ⟨keep _ (keepD d) _, ?_⟩
        rw [← Act.put_comm _ v undef h2, ← Act.put_defers]
        exact h
      case enter f args =>
        refine Calls.mono h fun e w'' he => ?_
        cases e with
        | returned u => exact ⟨keep a hy u, by rw [← Act.put_comm a v u h2]; exact he⟩
        | panicked c => exact hQ _ _ _ he
        | outgrown => exact he
      case row row args => exact Rows.mono h fun u w'' he => ⟨keep a hy u, by rw [← Act.put_comm a v u h2]; exact he⟩
    | halt x w' =>
      cases x <;> simp only [Oper.upon] at h ⊢
      case panic u => exact hQ _ _ _ h
  · rename_i hw
    simp only [hw] at h
    exact ⟨keep a hy _, by rw [← Act.put_comm a v undef h2]; exact h⟩
theorem wpAnyR_first (hCl : ∀ w, C w → ∀ y : Lat w, C (later w y)) {i : Nat} {oi : Oper} {v : Value} (hi : ops[i]? = some oi) (hsel : ∀ (j : Nat) (o : Oper) cs b, ops[j]? = some o → o.op ≠ .select cs b)
    (hQ : ∀ c a w, Q (.panic c) (a.put oi.dst v) w → Q (.panic c) a w) :
    ∀ (fuel : Nat) (listed : Array Bool) (a : Act) (w : World), C w →
      (∀ j oj, ops[j]? = some oj → j ≠ i → listed.getD j true = false → (∀ e ∈ oj.after, Region.binds md e = true → e.on ≠ i) → oi.apart ops oj = true) →
      i ∈ Region.ready md ops listed → YieldsR P ops C oi v a →
      wpAnyR P md ops C Q fuel (listed.setIfInBounds i true) (a.put oi.dst v) w → wpAnyR P md ops C Q (fuel + 1) listed a w := by
  intro fuel
  induction fuel with
  | zero =>
    intro listed a w hC _ hr hy H
    refine ⟨hC, fun h => (by rw [h] at hr; cases hr), fun y j hj => ?_⟩
    by_cases hji : j = i
    · subst hji
      exact hy.wpOp hi (hCl w hC y) fun y' => wpAnyR_later hCl _ _ _ _ _ (wpAnyR_later hCl _ _ _ _ _ H)
    · have := ready_mono hj hji
      rw [H.2.1] at this
      cases this
  | succ fuel ih =>
    intro listed a w hC hfree hr hy H
    refine ⟨hC, fun h => (by rw [h] at hr; cases hr), fun y j hj => ?_⟩
    by_cases hji : j = i
    · subst hji
      exact hy.wpOp hi (hCl w hC y) fun y' => wpAnyR_later hCl _ _ _ _ _ (wpAnyR_later hCl _ _ _ _ _ H)
    · have h1 := H.2.2 y j (ready_mono hj hji)
      obtain ⟨hjun, oj, hoj, hall⟩ := mem_ready.1 hj
      have hnot : ∀ e ∈ oj.after, Region.binds md e = true → e.on ≠ i := fun e he hb heq => by
        have h1 := hall e he hb
        have h0 := (mem_ready.1 hr).1
        rw [heq] at h1
        rcases Nat.lt_or_ge i listed.size with h' | h'
        · simp [h'] at h0 h1; rw [h0] at h1; cases h1
        · simp [Array.getElem?_eq_none h'] at h1
      have h2 := wpOp_putR hoj (hfree j oj hoj hji hjun hnot) (fun cs b => hsel i oi cs b hi) (fun cs b => hsel j oj cs b hoj) hQ hy h1
      have hfree' : ∀ k ok, ops[k]? = some ok → k ≠ i → (listed.setIfInBounds j true).getD k true = false →
          (∀ e ∈ ok.after, Region.binds md e = true → e.on ≠ i) → oi.apart ops ok = true := fun k ok hk hki hun hno => by
        refine hfree k ok hk hki ?_ hno
        by_cases hjk : j = k
        · subst hjk; exact hjun
        · rw [getD_set_ne true hjk] at hun; exact hun
      have hi' : i ∈ Region.ready md ops (listed.setIfInBounds j true) := ready_mono hr (Ne.symm hji)
      refine wpOp_mono (fun a' w' h3 => ?_) h2
      have h4 : wpAnyR P md ops C Q fuel ((listed.setIfInBounds j true).setIfInBounds i true) (a'.put oi.dst v) w' := by
        rw [Array.setIfInBounds_comm _ _ hji]
        exact h3.2
      have hC' : C w' := by cases fuel <;> exact h4.1
      exact ih (listed.setIfInBounds j true) a' w' hC' hfree' hi' h3.1 h4
/-- A region that draws its order. -/
theorem wp_region_R {id : Nat} {a : Act} {w : World} {l : List Oper} (C : World → Prop) (hm : P.follows .mixedOrders = true)
    (h : wpAnyR P .any l.toArray C (nrm (Q .normal)) l.length (Array.replicate l.length false) a w.drew) : (Code.region id l.toArray true).wp P Q a w := by
  refine wp_region_any hm ?_
  have := wpAny_monoQ (Q' := Q) (fun e a w he => by cases e <;> first | exact he | exact he.elim) _ _ _ _ (wpAny_of_R _ _ _ _ h)
  simpa using this
theorem below_closed (w0 : World) : ∀ w, Below w0.heap.size w0 w → ∀ y : Lat w, Below w0.heap.size w0 (later w y) := fun _ h y => bw_later h y
/-- An operation that reads is taken first. -/
theorem stepR_read {l rest : List Oper} {w0 : World} {K : Act → World → Prop} {i fuel : Nat} {o : Oper} {listed : Array Bool} {a : Act} {w : World} (hs : Region.noSelect l.toArray = true) (hf : ((Region.ready md l.toArray listed).contains i && Region.free md l.toArray listed i) = true) (hi0 : l.drop i = o :: rest)
    (hC : Below w0.heap.size w0 w) (hwt : Region.wanted o (yielded l.toArray a.tmps) = true)
    (h0 : ∀ K' : Act → Prop, (∀ a, wpAnyR P md l.toArray (Below w0.heap.size w0) (nrm K) fuel (listed.setIfInBounds i true) a w → K' a) → ∃ v, (∀ x : Lat w0, (execOp a.eval o).run P (later w0 x) = .ok (.value v) (later w0 x)) ∧ K' (a.put o.dst v)) : wpAnyR P md l.toArray (Below w0.heap.size w0) (nrm K) (fuel + 1) listed a w := by
  have hi := at_drop hi0
  obtain ⟨v, hrun, h⟩ := h0 _ fun _ h => h
  simp only [Bool.and_eq_true] at hf
  refine wpAnyR_first (below_closed w0) hi (Region.noSelect_spec hs) (fun _ _ _ h => h.elim) fuel listed a w hC (Region.free_spec hi hf.2) (by simpa using hf.1) (.inl ⟨hwt, fun w' hw' => ?_⟩) h
  obtain ⟨x, rfl⟩ := exists_later hw'
  unfold Oper.quietAt
  rw [hrun x]
  exact ⟨rfl, rfl⟩
/-- A call that makes memory at most is taken first. -/
theorem stepR_call {l rest : List Oper} {w0 : World} {K : Act → World → Prop} {i fuel : Nat} {o : Oper} {listed : Array Bool} {a : Act} {w : World} (hs : Region.noSelect l.toArray = true) (hf : ((Region.ready md l.toArray listed).contains i && Region.free md l.toArray listed i) = true) (hi0 : l.drop i = o :: rest)
    (hC : Below w0.heap.size w0 w) (hwt : Region.wanted o (yielded l.toArray a.tmps) = true)
    (h0 : ∀ K' : Act → Prop, (∀ a, wpAnyR P md l.toArray (Below w0.heap.size w0) (nrm K) fuel (listed.setIfInBounds i true) a w → K' a) →
      ∃ f args, (∀ x : Lat w0, (execOp a.eval o).run P (later w0 x) = .ok (.enter f args) (later w0 x)) ∧ ∃ v, (∀ x : Lat w0, Gv P f args (later w0 x) v) ∧ K' (a.put o.dst v)) : wpAnyR P md l.toArray (Below w0.heap.size w0) (nrm K) (fuel + 1) listed a w := by
  have hi := at_drop hi0
  obtain ⟨f, args, hrun, v, hc, h⟩ := h0 _ fun _ h => h
  simp only [Bool.and_eq_true] at hf
  refine wpAnyR_first (below_closed w0) hi (Region.noSelect_spec hs) (fun _ _ _ h => h.elim) fuel listed a w hC (Region.free_spec hi hf.2) (by simpa using hf.1) (.inl ⟨hwt, fun w' hw' => ?_⟩) h
  obtain ⟨x, rfl⟩ := exists_later hw'
  unfold Oper.quietAt
  rw [hrun x]
  exact ⟨rfl, Calls.mono (hc x) fun e w'' ⟨he, hb⟩ => ⟨he, exists_later hb⟩⟩
/-- One of one comes next. -/
theorem stepR_one {l r0 : List Oper} {K : Act → World → Prop} {i0 fuel : Nat} {o0 : Oper} {listed : Array Bool} {a : Act} {w : World} (hr : Region.ready md l.toArray listed = [i0]) (h0 : l.drop i0 = o0 :: r0) (hC : C w)
    (k0 : ∀ y : Lat w, ∀ K' : Act → World → Prop, (∀ a w, wpAnyR P md l.toArray C (nrm K) fuel (listed.setIfInBounds i0 true) a w → K' a w) → wpList P l.toArray (Exit.then K' (fun _ _ _ => False)) [o0] a (later w y)) : wpAnyR P md l.toArray C (nrm K) (fuel + 1) listed a w := by
  refine ⟨hC, by rw [hr]; simp, fun y j hj => ?_⟩
  rw [hr] at hj
  have hj' : j = i0 := by simpa using hj
  rcases hj' with rfl
  · exact wpOp_of_list (at_drop h0) (k0 y _ fun _ _ h => h)
/-- One of two comes next. -/
theorem stepR_two {l r0 r1 : List Oper} {K : Act → World → Prop} {i0 i1 fuel : Nat} {o0 o1 : Oper} {listed : Array Bool} {a : Act} {w : World} (hr : Region.ready md l.toArray listed = [i0, i1]) (h0 : l.drop i0 = o0 :: r0) (h1 : l.drop i1 = o1 :: r1) (hC : C w)
    (k0 : ∀ y : Lat w, ∀ K' : Act → World → Prop, (∀ a w, wpAnyR P md l.toArray C (nrm K) fuel (listed.setIfInBounds i0 true) a w → K' a w) → wpList P l.toArray (Exit.then K' (fun _ _ _ => False)) [o0] a (later w y))
    (k1 : ∀ y : Lat w, ∀ K' : Act → World → Prop, (∀ a w, wpAnyR P md l.toArray C (nrm K) fuel (listed.setIfInBounds i1 true) a w → K' a w) → wpList P l.toArray (Exit.then K' (fun _ _ _ => False)) [o1] a (later w y)) : wpAnyR P md l.toArray C (nrm K) (fuel + 1) listed a w := by
  refine ⟨hC, by rw [hr]; simp, fun y j hj => ?_⟩
  rw [hr] at hj
  have hj' : j = i0 ∨ j = i1 := by simpa using hj
  rcases hj' with rfl | rfl
  · exact wpOp_of_list (at_drop h0) (k0 y _ fun _ _ h => h)
  · exact wpOp_of_list (at_drop h1) (k1 y _ fun _ _ h => h)
/-- One of three comes next. -/
theorem stepR_three {l r0 r1 r2 : List Oper} {K : Act → World → Prop} {i0 i1 i2 fuel : Nat} {o0 o1 o2 : Oper} {listed : Array Bool} {a : Act} {w : World} (hr : Region.ready md l.toArray listed = [i0, i1, i2]) (h0 : l.drop i0 = o0 :: r0) (h1 : l.drop i1 = o1 :: r1) (h2 : l.drop i2 = o2 :: r2) (hC : C w)
    (k0 : ∀ y : Lat w, ∀ K' : Act → World → Prop, (∀ a w, wpAnyR P md l.toArray C (nrm K) fuel (listed.setIfInBounds i0 true) a w → K' a w) → wpList P l.toArray (Exit.then K' (fun _ _ _ => False)) [o0] a (later w y))
    (k1 : ∀ y : Lat w, ∀ K' : Act → World → Prop, (∀ a w, wpAnyR P md l.toArray C (nrm K) fuel (listed.setIfInBounds i1 true) a w → K' a w) → wpList P l.toArray (Exit.then K' (fun _ _ _ => False)) [o1] a (later w y))
    (k2 : ∀ y : Lat w, ∀ K' : Act → World → Prop, (∀ a w, wpAnyR P md l.toArray C (nrm K) fuel (listed.setIfInBounds i2 true) a w → K' a w) → wpList P l.toArray (Exit.then K' (fun _ _ _ => False)) [o2] a (later w y)) : wpAnyR P md l.toArray C (nrm K) (fuel + 1) listed a w := by
  refine ⟨hC, by rw [hr]; simp, fun y j hj => ?_⟩
  rw [hr] at hj
  have hj' : j = i0 ∨ j = i1 ∨ j = i2 := by simpa using hj
  rcases hj' with rfl | rfl | rfl
  · exact wpOp_of_list (at_drop h0) (k0 y _ fun _ _ h => h)
  · exact wpOp_of_list (at_drop h1) (k1 y _ fun _ _ h => h)
  · exact wpOp_of_list (at_drop h2) (k2 y _ fun _ _ h => h)
theorem stepR_end {K : Act → World → Prop} {listed : Array Bool} {a : Act} {w : World} (hr : Region.ready md ops listed = []) (hC : C w) (h : ∀ y : Lat w, K a (later w y)) : wpAnyR P md ops C (nrm K) 0 listed a w := ⟨hC, hr, h⟩
/-- Three fresh blocks. -/
structure Three (w0 : World) (z : Array Value) (t : TypeId) (b0 b1 b2 : Nat) (W : World) : Prop where
  below : Below w0.heap.size w0 W
  h0 : W.heap[b0]? = some (.cells z t (0, 0))
  h1 : W.heap[b1]? = some (.cells z t (0, 0))
  h2 : W.heap[b2]? = some (.cells z t (0, 0))
  n01 : b0 ≠ b1
  n02 : b0 ≠ b2
  n12 : b1 ≠ b2
  l0 : w0.heap.size ≤ b0
  l1 : w0.heap.size ≤ b1
  l2 : w0.heap.size ≤ b2
def ptr0 (b : Nat) : Value := .pointer (some ⟨b, 0, none⟩)
theorem wpOp_run {i : Nat} {o : Oper} {a : Act} {w W' : World} {v : Value} {K : Act → World → Prop} (hi : ops[i]? = some o) (hwt : Region.wanted o (yielded ops a.tmps) = true) (hrun : (execOp a.eval o).run P w = .ok (.value v) W') (h : K (a.put o.dst v) W') : wpOp P ops Q i K a w := by
  unfold Go.wpOp
  simp only [hi, hwt, if_true]
  refine .inl ?_
  unfold Oper.wp
  rw [hrun]
  exact h
/-- An allocation. -/
def Allocs (P : Program) (z : Array Value) (t : TypeId) (o : Oper) : Prop :=
  (∀ ys, Region.wanted o ys = true) ∧ ∀ (a : Act) (w : World), (execOp a.eval o).run P w = .ok (.value (ptr0 w.heap.size)) (w.alloc (.cells z t))
theorem stepR_seq3 {l : List Oper} {w0 : World} {K : Act → World → Prop} {i j k fuel : Nat} {oi oj ok : Oper} {listed : Array Bool} {a : Act} {w : World} {z : Array Value} {t : TypeId}
    (r2 : Region.ready md l.toArray (listed.setIfInBounds i true) ≠ []) (r5 : Region.ready md l.toArray ((listed.setIfInBounds i true).setIfInBounds j true) = [k])
    (hi : l.toArray[i]? = some oi) (hj : l.toArray[j]? = some oj) (hk : l.toArray[k]? = some ok) (gi : Allocs P z t oi) (gj : Allocs P z t oj) (gk : Allocs P z t ok)
    (hC : Below w0.heap.size w0 w)
    (h : ∀ (b0 b1 b2 : Nat) (W : World), Three w0 z t b0 b1 b2 W → wpAnyR P md l.toArray (Below w0.heap.size w0) (nrm K) fuel (((listed.setIfInBounds i true).setIfInBounds j true).setIfInBounds k true) (((a.put oi.dst (ptr0 b0)).put oj.dst (ptr0 b1)).put ok.dst (ptr0 b2)) W)
    (y : Lat w) : wpOp P l.toArray (nrm K) i (fun a' w' => Below w0.heap.size w0 w' ∧ Region.ready md l.toArray (listed.setIfInBounds i true) ≠ [] ∧ ∀ y' : Lat w', wpOp P l.toArray (nrm K) j (wpAnyR P md l.toArray (Below w0.heap.size w0) (nrm K) (fuel + 1) ((listed.setIfInBounds i true).setIfInBounds j true)) a' (later w' y')) a (later w y) := by
  have c1 : Below w0.heap.size w0 ((later w y).alloc (.cells z t)) := bw_alloc (bw_later hC y) _
  refine wpOp_run hi (gi.1 _) (gi.2 _ _) ⟨c1, r2, fun y2 => ?_⟩
  have c2 : Below w0.heap.size w0 ((later ((later w y).alloc (.cells z t)) y2).alloc (.cells z t)) := bw_alloc (bw_later c1 y2) _
  refine wpOp_run hj (gj.1 _) (gj.2 _ _) ⟨c2, by rw [r5]; simp, fun y3 q hq => ?_⟩
  rw [r5] at hq
  obtain rfl : q = k := by simpa using hq
  refine wpOp_run hk (gk.1 _) (gk.2 _ _) (h _ _ _ _ ?_)
  have e1 : ((later w y).alloc (.cells z t)).heap.size = (later w y).heap.size + 1 := by simp
  have s2 := later_size _ y2
  have e2 : ((later ((later w y).alloc (.cells z t)) y2).alloc (.cells z t)).heap.size = (later ((later w y).alloc (.cells z t)) y2).heap.size + 1 := by simp
  have s3 := later_size _ y3
  have sw := (bw_later hC y).size
  refine ⟨bw_alloc (bw_later c2 y3) _, ?_, ?_, heap_alloc_new _ _, by omega, by omega, by omega, by omega, by omega, by omega⟩
  · rw [Below.heap_alloc _ _ _ (by omega), (later_below _ y3).block _ (by omega), Below.heap_alloc _ _ _ (by omega), (later_below _ y2).block _ (by omega)]
    exact heap_alloc_new _ _
  · rw [Below.heap_alloc _ _ _ (by omega), (later_below _ y3).block _ (by omega)]
    exact heap_alloc_new _ _
theorem stepR_alloc3 {l ri rj rk : List Oper} {w0 : World} {K : Act → World → Prop} {i j k fuel : Nat} {oi oj ok : Oper} {listed : Array Bool} {a : Act} {w : World} {z : Array Value} {t : TypeId} {di dj dk : Tmp}
    (r1 : Region.ready md l.toArray listed = [i, j, k]) (r2 : Region.ready md l.toArray (listed.setIfInBounds i true) = [j, k]) (r3 : Region.ready md l.toArray (listed.setIfInBounds j true) = [i, k]) (r4 : Region.ready md l.toArray (listed.setIfInBounds k true) = [i, j])
    (r5 : Region.ready md l.toArray ((listed.setIfInBounds i true).setIfInBounds j true) = [k]) (r6 : Region.ready md l.toArray ((listed.setIfInBounds i true).setIfInBounds k true) = [j]) (r7 : Region.ready md l.toArray ((listed.setIfInBounds j true).setIfInBounds k true) = [i])
    (hi0 : l.drop i = oi :: ri) (hj0 : l.drop j = oj :: rj) (hk0 : l.drop k = ok :: rk) (nij : i ≠ j) (nik : i ≠ k) (njk : j ≠ k) (ei : oi.dst = some di) (ej : oj.dst = some dj) (ek : ok.dst = some dk) (dij : di ≠ dj) (dik : di ≠ dk) (djk : dj ≠ dk)
    (gi : Allocs P z t oi) (gj : Allocs P z t oj) (gk : Allocs P z t ok) (hC : Below w0.heap.size w0 w)
    (h' : ∀ K' : Act → World → Prop, (∀ a w, wpAnyR P md l.toArray (Below w0.heap.size w0) (nrm K) fuel (((listed.setIfInBounds i true).setIfInBounds j true).setIfInBounds k true) a w → K' a w) → ∀ (b0 b1 b2 : Nat) (W : World), Three w0 z t b0 b1 b2 W → K' (((a.put (some di) (ptr0 b0)).put (some dj) (ptr0 b1)).put (some dk) (ptr0 b2)) W) :
    wpAnyR P md l.toArray (Below w0.heap.size w0) (nrm K) (fuel + 3) listed a w := by
  have h := h' _ fun _ _ h => h
  have hi := at_drop hi0
  have hj := at_drop hj0
  have hk := at_drop hk0
  have cij : ∀ (a : Act) (u v : Value), (a.put (some di) u).put (some dj) v = (a.put (some dj) v).put (some di) u := fun a u v => Act.put_comm a u v fun d hd he => dij (by rw [Option.some.inj hd, Option.some.inj he])
  have cik : ∀ (a : Act) (u v : Value), (a.put (some di) u).put (some dk) v = (a.put (some dk) v).put (some di) u := fun a u v => Act.put_comm a u v fun d hd he => dik (by rw [Option.some.inj hd, Option.some.inj he])
  have cjk : ∀ (a : Act) (u v : Value), (a.put (some dj) u).put (some dk) v = (a.put (some dk) v).put (some dj) u := fun a u v => Act.put_comm a u v fun d hd he => djk (by rw [Option.some.inj hd, Option.some.inj he])
  have sij : ∀ m : Array Bool, (m.setIfInBounds i true).setIfInBounds j true = (m.setIfInBounds j true).setIfInBounds i true := fun m => Array.setIfInBounds_comm _ _ nij
  have sik : ∀ m : Array Bool, (m.setIfInBounds i true).setIfInBounds k true = (m.setIfInBounds k true).setIfInBounds i true := fun m => Array.setIfInBounds_comm _ _ nik
  have sjk : ∀ m : Array Bool, (m.setIfInBounds j true).setIfInBounds k true = (m.setIfInBounds k true).setIfInBounds j true := fun m => Array.setIfInBounds_comm _ _ njk
  have hT : ∀ {b0 b1 b2 : Nat} {W : World}, Three w0 z t b0 b1 b2 W → Three w0 z t b1 b0 b2 W := fun T => ⟨T.below, T.h1, T.h0, T.h2, T.n01.symm, T.n12, T.n02, T.l1, T.l0, T.l2⟩
  have hT' : ∀ {b0 b1 b2 : Nat} {W : World}, Three w0 z t b0 b1 b2 W → Three w0 z t b0 b2 b1 W := fun T => ⟨T.below, T.h0, T.h2, T.h1, T.n02, T.n01, T.n12.symm, T.l0, T.l2, T.l1⟩
  refine ⟨hC, by rw [r1]; simp, fun y q hq => ?_⟩
  rw [r1] at hq
  have hq' : q = i ∨ q = j ∨ q = k := by simpa using hq
  rcases hq' with rfl | rfl | rfl
  · have A1 := stepR_seq3 (fuel := fuel) (K := K) (listed := listed) (a := a) (by rw [r2]; simp) r5 hi hj hk gi gj gk hC (fun b0 b1 b2 W T => by rw [ei, ej, ek]; exact h b0 b1 b2 W T) y
    have A2 := stepR_seq3 (fuel := fuel) (K := K) (listed := listed) (a := a) (by rw [r2]; simp) r6 hi hk hj gi gk gj hC (fun b0 b1 b2 W T => by rw [ei, ej, ek, ← sjk, ← cjk]; exact h b0 b2 b1 W (hT' T)) y
    unfold Go.wpOp at A1 A2 ⊢
    simp only [hi, gi.1, if_true, Oper.wp, gi.2, Oper.upon] at A1 A2 ⊢
    rcases A1 with A1 | A1
    · rcases A2 with A2 | A2
      · refine .inl ⟨A1.1, A1.2.1, fun y' p hp => ?_⟩
        rw [r2] at hp
        have hp' : p = j ∨ p = k := by simpa using hp
        rcases hp' with rfl | rfl
        · exact A1.2.2 y'
        · exact A2.2.2 y'
      · obtain ⟨_, _, _, f⟩ := A2
        exact f.elim
    · obtain ⟨_, _, _, f⟩ := A1
      exact f.elim
  · have A1 := stepR_seq3 (fuel := fuel) (K := K) (listed := listed) (a := a) (by rw [r3]; simp) (by rw [← sij]; exact r5) hj hi hk gj gi gk hC (fun b0 b1 b2 W T => by rw [ei, ej, ek, ← sij, ← cij]; exact h b1 b0 b2 W (hT T)) y
    have A2 := stepR_seq3 (fuel := fuel) (K := K) (listed := listed) (a := a) (by rw [r3]; simp) r7 hj hk hi gj gk gi hC (fun b0 b1 b2 W T => by rw [ei, ej, ek, ← sik, ← sij, ← cik, ← cij]; exact h b2 b0 b1 W (hT (hT' T))) y
    unfold Go.wpOp at A1 A2 ⊢
    simp only [hj, gj.1, if_true, Oper.wp, gj.2, Oper.upon] at A1 A2 ⊢
    rcases A1 with A1 | A1
    · rcases A2 with A2 | A2
      · refine .inl ⟨A1.1, A1.2.1, fun y' p hp => ?_⟩
        rw [r3] at hp
        have hp' : p = i ∨ p = k := by simpa using hp
        rcases hp' with rfl | rfl
        · exact A1.2.2 y'
        · exact A2.2.2 y'
      · obtain ⟨_, _, _, f⟩ := A2
        exact f.elim
    · obtain ⟨_, _, _, f⟩ := A1
      exact f.elim
  · have A1 := stepR_seq3 (fuel := fuel) (K := K) (listed := listed) (a := a) (by rw [r4]; simp) (by rw [← sik]; exact r6) hk hi hj gk gi gj hC (fun b0 b1 b2 W T => by rw [ei, ej, ek, ← sik, ← sjk, ← cik, ← cjk]; exact h b1 b2 b0 W (hT' (hT T))) y
    have A2 := stepR_seq3 (fuel := fuel) (K := K) (listed := listed) (a := a) (by rw [r4]; simp) (by rw [← sjk]; exact r7) hk hj hi gk gj gi hC (fun b0 b1 b2 W T => by rw [ei, ej, ek, ← sjk, ← sik, ← sij, ← cjk, ← cik, ← cij]; exact h b2 b1 b0 W (hT (hT' (hT T)))) y
    unfold Go.wpOp at A1 A2 ⊢
    simp only [hk, gk.1, if_true, Oper.wp, gk.2, Oper.upon] at A1 A2 ⊢
    rcases A1 with A1 | A1
    · rcases A2 with A2 | A2
      · refine .inl ⟨A1.1, A1.2.1, fun y' p hp => ?_⟩
        rw [r4] at hp
        have hp' : p = i ∨ p = j := by simpa using hp
        rcases hp' with rfl | rfl
        · exact A1.2.2 y'
        · exact A2.2.2 y'
      · obtain ⟨_, _, _, f⟩ := A2
        exact f.elim
    · obtain ⟨_, _, _, f⟩ := A1
      exact f.elim
end
end Go.Proofs.Ytkdekpnnnpembaa
