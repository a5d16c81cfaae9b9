/- From a law's walk to the given statement, where the row names one variable that is only read. -/
import Derived.Test.YtnibhaabhjgmgaaDoorPost
import Derived.Test.YtnibhaabhjgmgaaDoorDoor
import Derived.ChangeVars
namespace Go.Proofs.YtnibhaabhjgmgaaDoor
open Go.RowKit Go.WideShapes Go.ChangeShapes Go.ChangeAt Go.Deep Go.Joins
section
variable {H : Type} {enc : TypeId × Value → H} {P : Program}
theorem trodVar_stays (hl : laidOutB P = true) {n : String} {g0 : Nat} {t0 : TypeId} (hg : P.globalNamed n = some g0) (hty : (P.globals[g0]?).map (·.type) = some t0) (hr : P.readableRec t0 = true) (hrow : t0 < P.types.size)
    {W W' : World} (hb : Below W.heap.size W W') {gs : List (DataW H)} {q : List MemPlace} {sp : Nat → Bool} (h : DataW.TrodVars enc P W (fun _ => true) [n] gs q) (hs : ∀ p ∈ q, W.sameAt W' p) (hp : ∀ p ∈ q, sp p.block = true) :
    DataW.TrodVars enc P W' sp [n] gs q := by
  obtain ⟨g, t, cs, fuel, d, p, rfl, h1, h2, h3, h4, rfl⟩ := trodVars_one h
  obtain rfl := Option.some.inj (hg.symm.trans h1)
  obtain rfl := Option.some.inj (hty.symm.trans h2)
  have h5 : W'.var? P n = some cs := by
    unfold World.var? at *
    simp only [hg, Option.bind_some] at h3 ⊢
    have hlt : g0 < W.heap.size := by
      rcases Nat.lt_or_ge g0 W.heap.size with h' | h'
      · exact h'
      · rw [Array.getElem?_eq_none h'] at h3; simp at h3
    rw [hb.block g0 hlt]
    exact h3
  exact trodVars_mk1 h1 h2 h5 (DataW.trod_stays (kids_book hl hr) (book_sized hr) (fun h => by cases h) ⟨hrow, book_self t0⟩ h4 (fun x hx => hs x (by simp [hx])) (fun x hx => hp x (by simp [hx])))
theorem law_post1 {f : Func} {s : ChangeSpec} {tb : TypeId} {apart fresh handsOn again : Bool} {W W' : World} {args : Array Value} {ds gs : List (DataW H)} {before : List MemPlace}
    (hW : DataW.Whole enc P f.params.toList s.vars apart W args.toList ds gs before) {n : String} {g0 : Nat} {t0 : TypeId} (hv : s.vars = [n]) (hg : P.globalNamed n = some g0) (hty : (P.globals[g0]?).map (·.type) = some t0) (hrv : P.readableRec t0 = true) (hrow : t0 < P.types.size)
    (hl : laidOutB P = true) (hr : f.params.toList.all (fun t => P.readableRec t && decide (t < P.types.size)) = true)
    (hres : (s.fn H (ds ++ gs)).results = [.lit (.bool true)]) (hargs : (s.fn H (ds ++ gs)).args = ds) (hvars : (s.fn H (ds ++ gs)).vars = gs)
    (ht : f.resultTypes = #[tb]) (hb4 : P.underlying tb = some .bool) (hb : Below W.heap.size W W') :
    s.post enc P f apart fresh handsOn again W args (.bool true) W' := by
  have hr' : ∀ t ∈ f.params.toList, P.readableRec t = true ∧ t < P.types.size := fun t ht' => by
    have := List.all_eq_true.1 hr t ht'
    simpa using this
  have hlt : ∀ x ∈ before, x.block < W.heap.size := fun x hx => hW.lt x hx
  obtain ⟨p, q, hA, hV, rfl, hz, hn⟩ := id hW
  have hsame : ∀ x ∈ p ++ q, W.sameAt W' x := fun x hx => hb.same (hlt x hx)
  have hres' : ∀ (b : Nat) (sp : Nat → Bool) (hd : Bool), DataW.TrodAll enc P W' b sp hd f.resultTypes.toList ((Value.bool true).resultList f.resultTypes.size) (s.fn H (ds ++ gs)).results [] := fun b sp hd => by
    rw [hres, ht]
    exact trodAll_mk1 (shut_bool hb4 _)
  have hargs' : ∀ sp : Nat → Bool, (∀ x ∈ p, sp x.block = true) → DataW.TrodAll enc P W' 0 sp true f.params.toList args.toList (s.fn H (ds ++ gs)).args p := fun sp hsp => by
    rw [hargs]
    exact trodAll_stays hl _ _ _ _ hr' hA (fun x hx => hsame x (by simp [hx])) hsp
  have hvars' : ∀ sp : Nat → Bool, (∀ x ∈ q, sp x.block = true) → DataW.TrodVars enc P W' sp s.vars (s.fn H (ds ++ gs)).vars q := fun sp hsp => by
    rw [hv, hvars]
    rw [hv] at hV
    exact trodVar_stays hl hg hty hrv hrow hb hV (fun x hx => hsame x (by simp [hx])) hsp
  have hold : ∀ x ∈ p ++ q, (fun b => decide (b < W.heap.size)) x.block = true := fun x hx => by simpa using hlt x hx
  refine ⟨ds, gs, p ++ q, [], p, q, hW, hres' _ _ _, hargs' _ (fun x hx => hold x (by simp [hx])), hvars' _ (fun x hx => hold x (by simp [hx])), World.keptBut_mono (fun x hx => ⟨hx, ?_⟩) (hb.frame (· ∈ p ++ q)), fun _ => ?_⟩
  · rcases List.mem_append.1 hx with h | h
    · exact .inr (.inl h)
    · exact .inr (.inr h)
  · refine ⟨ok_one ht rfl (okWide_bool_mk hb4 _), _, _, ([] ++ p) ++ q, ⟨[] ++ p, q, trodAll_append (hargs' _ (fun _ _ => rfl)) (hres' _ _ _), hvars' _ (fun _ _ => rfl), rfl, ?_, ?_⟩, ?_⟩
    · intro b off hp
      have hin : MemPlace.cell b off ∈ p ++ q := by simpa using hp
      rw [hb.frozen (hlt _ hin)]
      exact hz b off hin
    · intro ha
      have := hn ha
      simpa using this
    · intro x hx _
      simpa using hx
end
end Go.Proofs.YtnibhaabhjgmgaaDoor
