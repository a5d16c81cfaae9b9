/- A region that draws its order and appends three slices, one behind the other, to an empty one: whatever the order, a new row holds the three. No program in sight. -/
import Derived.Test.YtagplkdeallbmaaRegion
import Derived.Test.YtagplkdeallbmaaClone
namespace Go.Proofs.Ytagplkdeallbmaa
open Go Go.RowKit
section
variable {P : Program} {md : Region.Mode}
theorem own_low {w : World} {base base' T size n : Nat} {v : Value} {xs : List Value} (h : w.ownsRow base T size v n xs) (h' : base' ≤ base) : w.ownsRow base' T size v n xs :=
  ⟨h.1, h.2.imp id fun ⟨g, cap, cur, e, hb, r⟩ => ⟨g, cap, cur, e, by omega, r⟩⟩
theorem wpOp_runA {ops : Array Oper} {Q : Exit → Act → World → Prop} {i : Nat} {o : Oper} {a : Act} {w W' : World} {v : Value} {K : Act → World → Prop} (hi : ops[i]? = some o) (hwt : Region.wanted o (yielded ops a.tmps) = true) (hrun : (execOp a.eval o).run P w = .ok (.value v) W') (h : K (a.put o.dst v) W') : wpOp P ops Q i K a w := by
  unfold Go.wpOp
  simp only [hi, hwt, if_true]
  refine .inl ?_
  unfold Oper.wp
  rw [hrun]
  exact h
theorem eval_own {a : Act} {d : Tmp} {v : Value} (h : d < a.tmps.size) : (a.put (some d) v).eval (.tmp d) = v := by
  simp [Act.put, Act.eval, h]
theorem eval_far {a : Act} {d : Tmp} {v : Value} {x : Tmp} (h : x ≠ d) : (a.put (some d) v).eval (.tmp x) = a.eval (.tmp x) := Act.eval_put fun e he hx => h (by
  have h1 := Option.some.inj he
  have h2 : x = e := by simpa using hx
  rw [h2, ← h1])
theorem put_size (a : Act) (d : Tmp) (v : Value) : (a.put (some d) v).tmps.size = a.tmps.size := by simp [Act.put]
/-- What is the same all through: the kind of row. -/
structure RowKind (P : Program) (t e : TypeId) (i : TypeInfo) (z : Value) (size bytes : Nat) : Prop where
  ht : P.underlying t = some (.slice e)
  hi : P.info? e = some i
  hz : i.zero = some z
  hsize : i.size = size
  hby : i.bytes = bytes
  hzs : z.cells.size = size
  hsz : 0 < size
  hbs : bytes ≤ 64
/-- One append to a row of the region's own, as the one operation at hand. -/
theorem app_one {l : List Oper} {K : Act → World → Prop} {t e : TypeId} {i : TypeInfo} {z : Value} {size bytes : Nat} (hk : RowKind P t e i z size bytes)
    {j : Nat} {o : Oper} {rest : List Oper} (hj : l.drop j = o :: rest) (hgd : o.guard = none) {s x : Operand} (ho : o.op = .call { callee := .builtin .append, args := #[s, x], argTypes := #[t, t] })
    {a : Act} {W Wc : World} (hb : Below W.heap.size W Wc) {v : Value} {n : Nat} {xs : List Value} (hs : a.eval s = v) (hown : Wc.ownsRow W.heap.size e size v n xs)
    {ad : Addr} {m c : Nat} {news : List Value} (hx : a.eval x = .slice (some ad) m c) (hl : news.length = m * size) (hnews : ∀ j u, news[j]? = some u → Wc.cell? (ad.add j) = some u) (h1 : ∀ u ∈ news, u.oneCell' = true) (hn : n + m ≤ 2000000)
    (h : ∀ v' (y : Lat W), (later W y).ownsRow W.heap.size e size v' (n + m) (xs ++ news) → (∀ k, k < Wc.heap.size → v.ownBlock ≠ some k → (later W y).heap[k]? = Wc.heap[k]?) → K (a.put o.dst v') (later W y)) :
    wpOp P l.toArray (nrm K) j K a Wc := by
  refine wpOp_of_list (at_drop hj) ?_
  exact push_many hgd s x t ho i z size bytes hk.ht hk.hi hk.hz hk.hsize hk.hby hk.hzs hk.hsz v n xs hs hown hb ad m c news hx hl hnews h1 hn hk.hbs (fun v' y ho hk => h v' y ho hk)
theorem cells_later {W Wc : World} (hb : Below W.heap.size W Wc) {ad : Addr} {N : List Value} (C : ∀ j u, N[j]? = some u → W.cell? (ad.add j) = some u) : ∀ j u, N[j]? = some u → Wc.cell? (ad.add j) = some u := fun j u hj => by
  have hc := C j u hj
  have hlt := World.block_lt_of_cell? W _ hc
  rw [hb.cell hlt]
  exact hc
/-- The last two appends. -/
theorem app_tail {l r10 r14 : List Oper} {w0 : World} {K : Act → World → Prop} {i10 i14 fuel : Nat} {o10 o14 : Oper} {listed : Array Bool} {a : Act} {W Wc : World} {t e : TypeId} {ti : TypeInfo} {z : Value} {size bytes : Nat} (hk : RowKind P t e ti z size bytes)
    (R6 : Region.ready md l.toArray listed = [i10]) (R7 : Region.ready md l.toArray (listed.setIfInBounds i10 true) = [i14])
    (h10 : l.drop i10 = o10 :: r10) (h14 : l.drop i14 = o14 :: r14) {d4 d9 d10 d14 tm : Tmp} (e10 : o10.dst = some d10) (e14 : o14.dst = some d14)
    (g10 : o10.guard = none) (g14 : o14.guard = none) (ho10 : o10.op = .call { callee := .builtin .append, args := #[.tmp d4, .tmp d9], argTypes := #[t, t] }) (ho14 : o14.op = .call { callee := .builtin .append, args := #[.tmp d10, .tmp tm], argTypes := #[t, t] })
    (b10 : d10 < a.tmps.size) (nm : tm ≠ d10) {k m c2 gX : Nat} {ad2 : Addr} {N1 N2 : List Value} {X : Array Value} {v1 : Value}
    (x4 : a.eval (.tmp d4) = v1) (x9 : a.eval (.tmp d9) = .slice (some ⟨gX, 0, none⟩) 1 1) (xm : a.eval (.tmp tm) = .slice (some ad2) m c2)
    (L2 : N2.length = m * size) (C2 : ∀ j u, N2[j]? = some u → W.cell? (ad2.add j) = some u) (O2 : ∀ u ∈ N2, u.oneCell' = true) (LX : X.size = size) (OX : ∀ u ∈ X.toList, u.oneCell' = true) (hn : k + 1 + m ≤ 2000000)
    (hW : Below w0.heap.size w0 W) (hb : Below W.heap.size W Wc) (hown : Wc.ownsRow W.heap.size e size v1 k N1) (hX : Wc.heap[gX]? = some (.cells X e (0, 0)))
    (h : ∀ u10 v (y : Lat W), (later W y).ownsRow W.heap.size e size v (k + 1 + m) (N1 ++ X.toList ++ N2) → wpAnyC P md l.toArray (Below w0.heap.size w0) (nrm K) fuel ((listed.setIfInBounds i10 true).setIfInBounds i14 true) ((a.put (some d10) u10).put (some d14) v) (later W y)) :
    wpAnyC P md l.toArray (Below w0.heap.size w0) (nrm K) (fuel + 2) listed a Wc := by
  refine ⟨bw_trans hW hb, by rw [R6]; simp, fun q hq => ?_⟩
  rw [R6] at hq
  obtain rfl : q = i10 := by simpa using hq
  refine app_one hk h10 g10 ho10 hb x4 hown x9 (news := X.toList) (by simpa using LX) (fun j u hj => ?_) OX (by omega) fun v2 y2 hown2 hk2 => ?_
  · have e1 : (⟨gX, 0, none⟩ : Addr).add j = ⟨gX, j, none⟩ := by rw [addr_lit, Nat.zero_add]
    rw [e1, cell_of_row Wc gX j X e (0, 0) hX]
    simpa using hj
  · rw [e10]
    refine ⟨bw_trans hW (later_below W y2), by rw [R7]; simp, fun q hq => ?_⟩
    rw [R7] at hq
    obtain rfl : q = i14 := by simpa using hq
    refine app_one hk h14 g14 ho14 (later_below W y2) (eval_own b10) hown2 (by rw [eval_far nm]; exact xm) L2 (cells_later (later_below W y2) C2) O2 (by omega) fun v3 y3 hown3 _ => ?_
    rw [e14]
    exact h v2 v3 y3 hown3
theorem step_app3 {l r0 r4 r9 r10 r14 : List Oper} {w0 : World} {K : Act → World → Prop} {i0 i4 i9 i10 i14 fuel : Nat} {o0 o4 o9 o10 o14 : Oper} {listed : Array Bool} {a : Act} {W : World} {t e : TypeId} {ti : TypeInfo} {z : Value} {size bytes : Nat} (hk : RowKind P t e ti z size bytes)
    (R1 : Region.ready md l.toArray listed = [i0, i9]) (R2 : Region.ready md l.toArray (listed.setIfInBounds i0 true) = [i4, i9]) (R3 : Region.ready md l.toArray (listed.setIfInBounds i9 true) = [i0])
    (R4 : Region.ready md l.toArray ((listed.setIfInBounds i0 true).setIfInBounds i4 true) = [i9]) (R5 : Region.ready md l.toArray ((listed.setIfInBounds i0 true).setIfInBounds i9 true) = [i4])
    (R6 : Region.ready md l.toArray (((listed.setIfInBounds i0 true).setIfInBounds i4 true).setIfInBounds i9 true) = [i10]) (R7 : Region.ready md l.toArray ((((listed.setIfInBounds i0 true).setIfInBounds i4 true).setIfInBounds i9 true).setIfInBounds i10 true) = [i14])
    (h0 : l.drop i0 = o0 :: r0) (h4 : l.drop i4 = o4 :: r4) (h9 : l.drop i9 = o9 :: r9) (h10 : l.drop i10 = o10 :: r10) (h14 : l.drop i14 = o14 :: r14) (n09 : i0 ≠ i9) (n49 : i4 ≠ i9)
    {d0 d4 d9 d10 d14 tk tm tx : Tmp} (e0 : o0.dst = some d0) (e4 : o4.dst = some d4) (e9 : o9.dst = some d9) (e10 : o10.dst = some d10) (e14 : o14.dst = some d14)
    (g4 : o4.guard = none) (g10 : o10.guard = none) (g14 : o14.guard = none)
    (ho4 : o4.op = .call { callee := .builtin .append, args := #[.tmp d0, .tmp tk], argTypes := #[t, t] }) (ho10 : o10.op = .call { callee := .builtin .append, args := #[.tmp d4, .tmp d9], argTypes := #[t, t] }) (ho14 : o14.op = .call { callee := .builtin .append, args := #[.tmp d10, .tmp tm], argTypes := #[t, t] })
    (hd : d0 ≠ d4 ∧ d0 ≠ d9 ∧ d4 ≠ d9 ∧ tk ≠ d0 ∧ tk ≠ d9 ∧ tx ≠ d0 ∧ tx ≠ d4 ∧ tm ≠ d0 ∧ tm ≠ d4 ∧ tm ≠ d9 ∧ tm ≠ d10) (hs : d0 < a.tmps.size ∧ d4 < a.tmps.size ∧ d9 < a.tmps.size ∧ d10 < a.tmps.size)
    {k m c1 c2 : Nat} {ad1 ad2 : Addr} {N1 N2 : List Value} {X : Array Value}
    (w0' : ∀ ys, Region.wanted o0 ys = true) (run0 : ∀ (a' : Act) (w : World), (execOp a'.eval o0).run P w = .ok (.value (.slice (some ⟨w.heap.size, 0, none⟩) 0 0)) (w.alloc (.cells #[] e)))
    (w9' : ∀ ys, Region.wanted o9 ys = true) (run9 : ∀ (a' : Act), a'.eval (.tmp tx) = a.eval (.tmp tx) → ∀ w : World, (execOp a'.eval o9).run P w = .ok (.value (.slice (some ⟨w.heap.size, 0, none⟩) 1 1)) (w.alloc (.cells X e)))
    (xk : a.eval (.tmp tk) = .slice (some ad1) k c1) (L1 : N1.length = k * size) (C1 : ∀ j u, N1[j]? = some u → W.cell? (ad1.add j) = some u) (O1 : ∀ u ∈ N1, u.oneCell' = true)
    (xm : a.eval (.tmp tm) = .slice (some ad2) m c2) (L2 : N2.length = m * size) (C2 : ∀ j u, N2[j]? = some u → W.cell? (ad2.add j) = some u) (O2 : ∀ u ∈ N2, u.oneCell' = true) (LX : X.size = size) (OX : ∀ u ∈ X.toList, u.oneCell' = true) (hn : k + 1 + m ≤ 2000000)
    (hC : Below w0.heap.size w0 W)
    (h' : ∀ K' : Act → World → Prop, (∀ a w, wpAnyC P md l.toArray (Below w0.heap.size w0) (nrm K) fuel (((((listed.setIfInBounds i0 true).setIfInBounds i4 true).setIfInBounds i9 true).setIfInBounds i10 true).setIfInBounds i14 true) a w → K' a w) →
      ∀ u0 u4 u9 u10 v (y : Lat W), (later W y).ownsRow W.heap.size e size v (k + 1 + m) (N1 ++ X.toList ++ N2) → K' (((((a.put (some d0) u0).put (some d4) u4).put (some d9) u9).put (some d10) u10).put (some d14) v) (later W y)) :
    wpAnyC P md l.toArray (Below w0.heap.size w0) (nrm K) (fuel + 5) listed a W := by
  have h := h' _ fun _ _ h => h
  clear h'
  obtain ⟨n1, n2, n3, n4, n5, n6, n7, n8, n9, n10, n11⟩ := hd
  obtain ⟨s0, s4, s9, s10⟩ := hs
  have c09 : ∀ (a : Act) (u v : Value), (a.put (some d9) u).put (some d0) v = (a.put (some d0) v).put (some d9) u := fun a u v => Act.put_comm a u v fun d hd he => n2 (by rw [Option.some.inj hd, Option.some.inj he])
  have c49 : ∀ (a : Act) (u v : Value), (a.put (some d9) u).put (some d4) v = (a.put (some d4) v).put (some d9) u := fun a u v => Act.put_comm a u v fun d hd he => n3 (by rw [Option.some.inj hd, Option.some.inj he])
  have q09 : ∀ m : Array Bool, (m.setIfInBounds i9 true).setIfInBounds i0 true = (m.setIfInBounds i0 true).setIfInBounds i9 true := fun m => Array.setIfInBounds_comm _ _ n09.symm
  have q49 : ∀ m : Array Bool, (m.setIfInBounds i9 true).setIfInBounds i4 true = (m.setIfInBounds i4 true).setIfInBounds i9 true := fun m => Array.setIfInBounds_comm _ _ n49.symm
  have hmx : size ≤ 2000000 * size := by omega
  -- the tail, from any world in which the first row stands and the one element lies
  have tail : ∀ (u0 v1 : Value) (gX : Nat) (Wc : World), Below W.heap.size W Wc → Wc.ownsRow W.heap.size e size v1 k N1 → Wc.heap[gX]? = some (.cells X e (0, 0)) →
      wpAnyC P md l.toArray (Below w0.heap.size w0) (nrm K) (fuel + 2) (((listed.setIfInBounds i0 true).setIfInBounds i4 true).setIfInBounds i9 true) (((a.put (some d0) u0).put (some d4) v1).put (some d9) (.slice (some ⟨gX, 0, none⟩) 1 1)) Wc := fun u0 v1 gX Wc hb hown hX =>
    app_tail hk R6 R7 h10 h14 e10 e14 g10 g14 ho10 ho14 (by rw [put_size, put_size, put_size]; exact s10) n11
      (by rw [eval_far n3, eval_own (by rw [put_size]; exact s4)]) (eval_own (by rw [put_size, put_size]; exact s9)) (by rw [eval_far n10, eval_far n9, eval_far n8]; exact xm) L2 C2 O2 LX OX hn hC hb hown hX
      (fun u10 v y hown => h u0 v1 _ u10 v y hown)
  have hC1 : ∀ Wc, Below W.heap.size W Wc → Below w0.heap.size w0 Wc := fun Wc hb => bw_trans hC hb
  have made : ∀ Wc : World, Below W.heap.size W Wc → (Wc.alloc (.cells #[] e)).ownsRow W.heap.size e size (.slice (some ⟨Wc.heap.size, 0, none⟩) 0 0) 0 [] := fun Wc hb => World.ownsRow_made Wc #[] 0 hb.size (by decide) (by simp)
  refine ⟨hC, by rw [R1]; simp, fun q hq => ?_⟩
  rw [R1] at hq
  have hq' : q = i0 ∨ q = i9 := by simpa using hq
  rcases hq' with rfl | rfl
  · refine wpOp_runA (at_drop h0) (w0' _) (run0 a W) ?_
    rw [e0]
    have b1 : Below W.heap.size W (W.alloc (.cells #[] e)) := bw_alloc (Below.refl _ _) _
    refine ⟨hC1 _ b1, by rw [R2]; simp, fun q hq => ?_⟩
    rw [R2] at hq
    have hq' : q = i4 ∨ q = i9 := by simpa using hq
    rcases hq' with rfl | rfl
    · refine app_one hk h4 g4 ho4 b1 (eval_own s0) (made W (Below.refl _ _)) (by rw [eval_far n4]; exact xk) L1 (cells_later b1 C1) O1 (by omega) fun v1 y1 hown1 hk1 => ?_
      rw [e4, Nat.zero_add, List.nil_append] at *
      refine ⟨hC1 _ (later_below W y1), by rw [R4]; simp, fun q hq => ?_⟩
      rw [R4] at hq
      obtain rfl : q = i9 := by simpa using hq
      refine wpOp_runA (at_drop h9) (w9' _) (run9 _ (by rw [eval_far n7, eval_far n6]) _) ?_
      rw [e9]
      exact tail _ _ _ _ (bw_alloc (later_below W y1) _) (hown1.alloc _) (heap_alloc_new _ _)
    · refine wpOp_runA (at_drop h9) (w9' _) (run9 _ (by rw [eval_far n6]) _) ?_
      rw [e9]
      have b2 : Below W.heap.size W ((W.alloc (.cells #[] e)).alloc (.cells X e)) := bw_alloc b1 _
      refine ⟨hC1 _ b2, by rw [R5]; simp, fun q hq => ?_⟩
      rw [R5] at hq
      obtain rfl : q = i4 := by simpa using hq
      refine app_one hk h4 g4 ho4 b2 (by rw [eval_far n2]; exact eval_own s0) ((made W (Below.refl _ _)).alloc _) (by rw [eval_far n5, eval_far n4]; exact xk) L1 (cells_later b2 C1) O1 (by omega) fun v1 y1 hown1 hk1 => ?_
      rw [e4, c49]
      rw [Nat.zero_add, List.nil_append] at hown1
      rw [q49]
      refine tail _ _ _ _ (later_below W y1) hown1 ((hk1 _ (by simp) ?_).trans (heap_alloc_new _ _))
      simp [Value.ownBlock]
  · refine wpOp_runA (at_drop h9) (w9' _) (run9 a rfl W) ?_
    rw [e9]
    have b1 : Below W.heap.size W (W.alloc (.cells X e)) := bw_alloc (Below.refl _ _) _
    refine ⟨hC1 _ b1, by rw [R3]; simp, fun q hq => ?_⟩
    rw [R3] at hq
    obtain rfl : q = i0 := by simpa using hq
    refine wpOp_runA (at_drop h0) (w0' _) (run0 _ _) ?_
    rw [e0]
    have b2 : Below W.heap.size W ((W.alloc (.cells X e)).alloc (.cells #[] e)) := bw_alloc b1 _
    refine ⟨hC1 _ b2, by rw [q09, R5]; simp, fun q hq => ?_⟩
    rw [q09, R5] at hq
    obtain rfl : q = i4 := by simpa using hq
    refine app_one hk h4 g4 ho4 b2 (eval_own (by rw [put_size]; exact s0)) (made _ b1) (by rw [eval_far n4, eval_far n5]; exact xk) L1 (cells_later b2 C1) O1 (by omega) fun v1 y1 hown1 hk1 => ?_
    rw [e4, c09, c49, q09, q49]
    rw [Nat.zero_add, List.nil_append] at hown1
    refine tail _ _ _ _ (later_below W y1) hown1 ((hk1 _ (by simp; omega) ?_).trans ((Below.heap_alloc _ _ _ (by simp)).trans (heap_alloc_new _ _)))
    simp [Value.ownBlock]
end
end Go.Proofs.Ytagplkdeallbmaa
