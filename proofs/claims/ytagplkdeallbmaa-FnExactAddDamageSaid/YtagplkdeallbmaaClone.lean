/- A whole slice appended to a row of the call's own; a slice of structs copied. -/
import Derived.Test.YtagplkdeallbmaaPushK
import Derived.Test.YtagplkdeallbmaaRows
import Derived.Lib.SliceRun
namespace Go.Proofs.Ytagplkdeallbmaa
open Go.RowKit
section
variable {P : Program}
theorem push_many {ops : Array Oper} {rest : List Oper} {o : Oper} {a : Act} {Q : Exit → Act → World → Prop} {W w0 : World} {e : TypeId} (hgd : o.guard = none) (s x : Operand) (t : TypeId)
    (ho : o.op = .call { callee := .builtin .append, args := #[s, x], argTypes := #[t, t] })
    (i : TypeInfo) (z : Value) (size bytes : Nat) (ht : P.underlying t = some (.slice e)) (hi : P.info? e = some i) (hz : i.zero = some z)
    (hsize : i.size = size) (hby : i.bytes = bytes) (hzs : z.cells.size = size) (hsz : 0 < size)
    (v : Value) (n : Nat) (xs : List Value) (hs : a.eval s = v) (hown : W.ownsRow w0.heap.size e size v n xs) (hb : Below w0.heap.size w0 W)
    (ad : Addr) (m c : Nat) (news : List Value) (hx : a.eval x = .slice (some ad) m c) (hl : news.length = m * size) (hnews : ∀ j u, news[j]? = some u → W.cell? (ad.add j) = some u) (h1 : ∀ u ∈ news, u.oneCell' = true)
    (hn : n + m ≤ 2000000) (hbs : bytes ≤ 64)
    (h : ∀ v' (y : Lat w0), (later w0 y).ownsRow w0.heap.size e size v' (n + m) (xs ++ news) → (∀ k, k < W.heap.size → v.ownBlock ≠ some k → (later w0 y).heap[k]? = W.heap[k]?) → wpList P ops Q rest (a.put o.dst v') (later w0 y)) :
    wpList P ops Q (o :: rest) a W := by
  refine wpList_append_own _ hgd s x t ho w0.heap.size e i z size bytes ht hi hz hsize hby hzs hsz v n xs hs hown ad m c news hx hl hnews h1 (by unfold maxLen; omega) ?_ hb.size ?_
  · calc (n + m) * bytes ≤ 2000000 * 64 := Nat.mul_le_mul hn hbs
      _ ≤ 140737488355328 := by decide
  · intro v' w' hown' hg _
    obtain ⟨y, rfl⟩ := exists_later (hb.grown hg hb.size (fun k hk => (hown.lt k hk).1))
    exact h v' y hown' fun k hk hne => hg.block k hk fun e => hne e.symm
end
theorem addr_lit (g off n : Nat) : (⟨g, off, none⟩ : Addr).add n = ⟨g, off + n, none⟩ := by
  unfold Addr.add
  split <;> simp_all
theorem R3.one (xs : List R3) : ∀ u ∈ xs.flatMap R3.cs, u.oneCell' = true := by
  intro u hu
  obtain ⟨r, -, hr⟩ := List.mem_flatMap.1 hu
  simp only [R3.cs, List.mem_cons, List.not_mem_nil, or_false] at hr
  rcases hr with rfl | rfl | rfl <;> rfl
theorem SR3.flat {w : World} {g off n : Nat} {xs : List R3} (hs : SR3 w g off n xs) : ∀ j u, (xs.flatMap R3.cs)[j]? = some u → w.cell? ((⟨g, off, none⟩ : Addr).add j) = some u := by
  intro j u hj
  have hl := flat_len R3.cs_len xs
  have hjl : j < xs.length * 3 := by rw [← hl]; exact (List.getElem?_eq_some_iff.1 hj).1
  obtain ⟨i, k, rfl, hk⟩ : ∃ i k, j = i * 3 + k ∧ k < 3 := ⟨j / 3, j % 3, by omega, by omega⟩
  have hi : i < xs.length := by omega
  have hr : xs[i]? = some xs[i] := List.getElem?_eq_getElem hi
  rw [flat_at R3.cs_len xs i k _ hr hk] at hj
  obtain ⟨c0, c1, c2⟩ := hs.2.2 i _ hr
  rw [addr_lit, ← Nat.add_assoc]
  match k, hk with
  | 0, _ =>
    simp only [R3.cs, List.getElem?_cons_zero, Option.some.injEq] at hj
    subst hj
    exact c0
  | 1, _ =>
    simp only [R3.cs, List.getElem?_cons_zero, List.getElem?_cons_succ, Option.some.injEq] at hj
    subst hj
    exact c1
  | 2, _ =>
    simp only [R3.cs, List.getElem?_cons_zero, List.getElem?_cons_succ, Option.some.injEq] at hj
    subst hj
    exact c2
theorem OR3.narrow {w : World} {lo hi g n : Nat} {xs : List R3} (h : OR3 w lo hi (some ⟨g, 0, none⟩) n xs) : OR3 w g (g + 1) (some ⟨g, 0, none⟩) n xs :=
  ⟨h.1, fun hn => by
    obtain ⟨g', t, cur, e, _, _, r⟩ := h.2 hn
    simp only [Option.some.injEq, Addr.mk.injEq, and_true] at e
    subst e
    exact ⟨g, t, cur, rfl, by omega, by omega, r⟩⟩
theorem OR3.off {w w' : World} {lo hi n : Nat} {A : Option Addr} {xs : List R3} (h : OR3 w lo hi A n xs) (hb : ∀ k, lo ≤ k → k < hi → w'.heap[k]? = w.heap[k]?) : OR3 w' lo hi A n xs :=
  ⟨h.1, fun hn => by
    obtain ⟨g, t, cur, e, h1, h2, hg, r⟩ := h.2 hn
    exact ⟨g, t, cur, e, h1, h2, (hb g h1 h2).trans hg, r⟩⟩
theorem infoCloneR3 : (Try.prog.info? 59).map (fun i => (i.zero, i.size, i.bytes)) = some (some (.agg #[.int .i64 0, .int .i64 0, .int .i64 0]), 3, 24) := by kernel_rfl
theorem cloneR3_any (g off n c : Nat) (xs : List R3) (w : World) (hs : SR3 w g off n xs) (hn : n ≤ 1048576) (h0 : 0 < n) :
    Calls Try.prog 60 #[.slice (some ⟨g, off, none⟩) n c] w fun e w' => ∃ g2 c2, e = .returned (.slice (some ⟨g2, 0, none⟩) n c2) ∧ w.heap.size ≤ g2 ∧ OR3 w' g2 (g2 + 1) (some ⟨g2, 0, none⟩) n xs ∧ g2 < w'.heap.size ∧ Below w.heap.size w w' := by
  obtain ⟨i0, hi, hz0, hz1, hz2⟩ := info_parts infoCloneR3
  have hf := Lib.hid hs.flat
  have hl := Lib.hid hs.2.1
  have ho := Lib.hid (R3.one xs)
  have hg := hs.1
  have hlen : Hid ((xs.flatMap R3.cs).length = n * 3) := Lib.hid (by rw [flat_len R3.cs_len, hl.out])
  have Hi := Lib.hid hi
  have Hz0 := Lib.hid hz0
  have Hz1 := Lib.hid hz1
  have Hz2 := Lib.hid hz2
  have hq : ∀ w' : World, (binOp .eql 43 (.slice (some ⟨g, off, none⟩) n c) (.slice none 0 0)).run Try.prog w' = .ok (.bool false) w' := fun w' => Lib.run_eql_slice_nil w' _ _ (some ⟨g, off, none⟩) n c 0 0 Try.underlying43
  clear hi hz0 hz1 hz2 hs
  go_enter Try.func60, Try.ntmps60
  go_wp2_with (at_builtin; refine push_many rfl _ _ _ rfl i0 _ 3 24 Try.underlying43 Hi.out Hz0.out Hz1.out Hz2.out rfl (by decide) _ _ _ rfl (World.ownsRow_made w #[] 0 (Nat.le_refl _) (by decide) rfl) (w0 := w) (by repeat (with_reducible first | exact hbD | exact Below.refl _ _ | refine bw_later ?_ _ | refine bw_alloc ?_ _ | refine bw_drew ?_ | refine bw_set ?_ (Nat.le_refl _) _ | refine bw_set ?_ ?_ _ | exact Nat.le_refl _ | exact later_size _ _ | refine Nat.le_trans ?_ (later_size _ _) | refine Nat.le_trans ?_ (size_alloc_le _ _) | refine Nat.le_trans ?_ (Nat.le_add_right _ _))) ⟨g, off, none⟩ n c (xs.flatMap R3.cs) rfl hlen.out (fun j u hj => (Lib.cell?_alloc_some _ (hf.out j u hj))) ho.out (by omega) (by omega) ?_; intro v1 y1 hown1 hk1)
  go_ret
  simp only [List.nil_append, Nat.zero_add] at hown1
  obtain ⟨A, c2, rfl, hO⟩ := OR3_of_own hown1 hl.out
  obtain ⟨g2, e, h1, h2, h3, _⟩ := hO.cells h0
  subst e
  exact ⟨g2, c2, rfl, h1, hO.narrow, h3, (by repeat (with_reducible first | exact hbD | exact Below.refl _ _ | refine bw_later ?_ _ | refine bw_alloc ?_ _ | refine bw_drew ?_ | refine bw_set ?_ (Nat.le_refl _) _ | refine bw_set ?_ ?_ _ | exact Nat.le_refl _ | exact later_size _ _ | refine Nat.le_trans ?_ (later_size _ _) | refine Nat.le_trans ?_ (size_alloc_le _ _) | refine Nat.le_trans ?_ (Nat.le_add_right _ _)))⟩
theorem Sup.one (xs : List Sup) : ∀ u ∈ xs.flatMap Sup.cs, u.oneCell' = true := by
  intro u hu
  obtain ⟨r, -, hr⟩ := List.mem_flatMap.1 hu
  simp only [Sup.cs, List.mem_cons, List.not_mem_nil, or_false] at hr
  rcases hr with rfl | rfl | rfl <;> rfl
theorem SSup.flat {w : World} {g off n : Nat} {xs : List Sup} (hs : SSup w g off n xs) : ∀ j u, (xs.flatMap Sup.cs)[j]? = some u → w.cell? ((⟨g, off, none⟩ : Addr).add j) = some u := by
  intro j u hj
  have hl := flat_len Sup.cs_len xs
  have hjl : j < xs.length * 3 := by rw [← hl]; exact (List.getElem?_eq_some_iff.1 hj).1
  obtain ⟨i, k, rfl, hk⟩ : ∃ i k, j = i * 3 + k ∧ k < 3 := ⟨j / 3, j % 3, by omega, by omega⟩
  have hi : i < xs.length := by omega
  have hr : xs[i]? = some xs[i] := List.getElem?_eq_getElem hi
  rw [flat_at Sup.cs_len xs i k _ hr hk] at hj
  obtain ⟨c0, c1, c2⟩ := hs.2.2 i _ hr
  rw [addr_lit, ← Nat.add_assoc]
  match k, hk with
  | 0, _ =>
    simp only [Sup.cs, List.getElem?_cons_zero, Option.some.injEq] at hj
    subst hj
    exact c0
  | 1, _ =>
    simp only [Sup.cs, List.getElem?_cons_zero, List.getElem?_cons_succ, Option.some.injEq] at hj
    subst hj
    exact c1
  | 2, _ =>
    simp only [Sup.cs, List.getElem?_cons_zero, List.getElem?_cons_succ, Option.some.injEq] at hj
    subst hj
    exact c2
theorem OSup.narrow {w : World} {lo hi g n : Nat} {xs : List Sup} (h : OSup w lo hi (some ⟨g, 0, none⟩) n xs) : OSup w g (g + 1) (some ⟨g, 0, none⟩) n xs :=
  ⟨h.1, fun hn => by
    obtain ⟨g', t, cur, e, _, _, r⟩ := h.2 hn
    simp only [Option.some.injEq, Addr.mk.injEq, and_true] at e
    subst e
    exact ⟨g, t, cur, rfl, by omega, by omega, r⟩⟩
theorem OSup.off {w w' : World} {lo hi n : Nat} {A : Option Addr} {xs : List Sup} (h : OSup w lo hi A n xs) (hb : ∀ k, lo ≤ k → k < hi → w'.heap[k]? = w.heap[k]?) : OSup w' lo hi A n xs :=
  ⟨h.1, fun hn => by
    obtain ⟨g, t, cur, e, h1, h2, hg, r⟩ := h.2 hn
    exact ⟨g, t, cur, e, h1, h2, (hb g h1 h2).trans hg, r⟩⟩
theorem R5.one (xs : List R5) : ∀ u ∈ xs.flatMap R5.cs, u.oneCell' = true := by
  intro u hu
  obtain ⟨r, -, hr⟩ := List.mem_flatMap.1 hu
  simp only [R5.cs, List.mem_cons, List.not_mem_nil, or_false] at hr
  rcases hr with rfl | rfl | rfl | rfl | rfl <;> rfl
theorem SR5.flat {w : World} {g off n : Nat} {xs : List R5} (hs : SR5 w g off n xs) : ∀ j u, (xs.flatMap R5.cs)[j]? = some u → w.cell? ((⟨g, off, none⟩ : Addr).add j) = some u := by
  intro j u hj
  have hl := flat_len R5.cs_len xs
  have hjl : j < xs.length * 5 := by rw [← hl]; exact (List.getElem?_eq_some_iff.1 hj).1
  obtain ⟨i, k, rfl, hk⟩ : ∃ i k, j = i * 5 + k ∧ k < 5 := ⟨j / 5, j % 5, by omega, by omega⟩
  have hi : i < xs.length := by omega
  have hr : xs[i]? = some xs[i] := List.getElem?_eq_getElem hi
  rw [flat_at R5.cs_len xs i k _ hr hk] at hj
  obtain ⟨c0, c1, c2, c3, c4⟩ := hs.2.2 i _ hr
  rw [addr_lit, ← Nat.add_assoc]
  match k, hk with
  | 0, _ =>
    simp only [R5.cs, List.getElem?_cons_zero, Option.some.injEq] at hj
    subst hj
    exact c0
  | 1, _ =>
    simp only [R5.cs, List.getElem?_cons_zero, List.getElem?_cons_succ, Option.some.injEq] at hj
    subst hj
    exact c1
  | 2, _ =>
    simp only [R5.cs, List.getElem?_cons_zero, List.getElem?_cons_succ, Option.some.injEq] at hj
    subst hj
    exact c2
  | 3, _ =>
    simp only [R5.cs, List.getElem?_cons_zero, List.getElem?_cons_succ, Option.some.injEq] at hj
    subst hj
    exact c3
  | 4, _ =>
    simp only [R5.cs, List.getElem?_cons_zero, List.getElem?_cons_succ, Option.some.injEq] at hj
    subst hj
    exact c4
theorem OR5.narrow {w : World} {lo hi g n : Nat} {xs : List R5} (h : OR5 w lo hi (some ⟨g, 0, none⟩) n xs) : OR5 w g (g + 1) (some ⟨g, 0, none⟩) n xs :=
  ⟨h.1, fun hn => by
    obtain ⟨g', t, cur, e, _, _, r⟩ := h.2 hn
    simp only [Option.some.injEq, Addr.mk.injEq, and_true] at e
    subst e
    exact ⟨g, t, cur, rfl, by omega, by omega, r⟩⟩
theorem OR5.off {w w' : World} {lo hi n : Nat} {A : Option Addr} {xs : List R5} (h : OR5 w lo hi A n xs) (hb : ∀ k, lo ≤ k → k < hi → w'.heap[k]? = w.heap[k]?) : OR5 w' lo hi A n xs :=
  ⟨h.1, fun hn => by
    obtain ⟨g, t, cur, e, h1, h2, hg, r⟩ := h.2 hn
    exact ⟨g, t, cur, e, h1, h2, (hb g h1 h2).trans hg, r⟩⟩
end Go.Proofs.Ytagplkdeallbmaa
