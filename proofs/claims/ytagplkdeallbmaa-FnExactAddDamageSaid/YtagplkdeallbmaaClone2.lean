/- A slice of structs copied: the copy's capacity too; what stays when a row's cells behind its elements turn. -/
import Derived.Test.YtagplkdeallbmaaClone
namespace Go.Proofs.Ytagplkdeallbmaa
open Go Go.RowKit
theorem own_cap {w : World} {base T size n c : Nat} {A : Option Addr} {xs : List Value} (h : w.ownsRow base T size (.slice A n c) n xs) : n ≤ c := by
  rcases h.2 with ⟨h1, h2⟩ | ⟨g, cap, cur, h1, hb, hg, hnc, _⟩
  · simp only [Value.slice.injEq] at h1
    omega
  · simp only [Value.slice.injEq] at h1
    omega
theorem Tch.later {w w' : World} {lo hi : Nat} (h : Tch w w' lo hi) (x : Lat w') : Tch w (later w' x) lo hi :=
  ⟨(later_below w' x).os.trans h.os, (later_below w' x).tape.trans h.tape, (later_below w' x).output.trans h.output, Nat.le_trans h.size (later_size w' x), fun k hk hd => ((later_below w' x).block k (Nat.lt_of_lt_of_le hk h.size)).trans (h.block k hk hd)⟩
theorem Tch.alloc {w w' : World} {lo hi : Nat} (h : Tch w w' lo hi) (o : Obj) : Tch w (w'.alloc o) lo hi :=
  ⟨h.os, h.tape, h.output, Nat.le_trans h.size (by simp), fun k hk hd => (Below.heap_alloc w' o k (Nat.lt_of_lt_of_le hk h.size)).trans (h.block k hk hd)⟩
theorem Tch.drew {w w' : World} {lo hi : Nat} (h : Tch w w' lo hi) : Tch w w'.drew lo hi := ⟨h.os, h.tape, h.output, h.size, h.block⟩
theorem Tch.put {w w' : World} {g i : Nat} (h : Tch w w' g (g + 1)) (u : Value) : Tch w (w'.setCell ⟨g, i, none⟩ u) g (g + 1) := h.set (Nat.le_refl _) (Nat.lt_succ_self _) u
theorem Tch.cells {w : World} {g : Nat} : ∀ (vs : List Value) (o : Nat) (w' : World), Tch w w' g (g + 1) → Tch w (w'.setCells g o vs) g (g + 1)
  | [], _, _, h => h
  | v :: r, o, _, h => Tch.cells r (o + 1) _ (h.put v)
theorem Tch.trans {a b c : World} {lo hi : Nat} (h : Tch a b lo hi) (k : Tch b c lo hi) : Tch a c lo hi :=
  ⟨k.os.trans h.os, k.tape.trans h.tape, k.output.trans h.output, Nat.le_trans h.size k.size, fun j hj hd => (k.block j (Nat.lt_of_lt_of_le hj h.size) hd).trans (h.block j hj hd)⟩
theorem Tch.of_below {a b : World} {g : Nat} (h : Below a.heap.size a b) : Tch a b g (g + 1) := ⟨h.os, h.tape, h.output, h.size, fun k hk _ => h.block k hk⟩
/-- 'clear' on a slice of n elements of more cells than one. -/
theorem run_clear_many {P : Program} (w : World) (t e ty : TypeId) (z : Value) (ht : P.underlying t = some (.slice e)) (hv : ∀ w, (zeroValue e).run P w = .ok z w) (h1 : ∀ v ∈ z.cells.toList, v.oneCell' = true) (b o n c : Nat) (hn : 0 < n)
    (hc : ∀ j, j < n * z.cells.size → (w.cell? ⟨b, o + j, none⟩).isSome = true) (hf : ∀ j, w.frozen? ⟨b, o + j, none⟩ = false) :
    (Builtin.clear_ #[t] ty #[.slice (some ⟨b, o, none⟩) n c]).run P w = .ok (.tuple #[]) (w.setCells b o (Builtin.zeroCells z.cells n).toList) := by
  have hz : ∀ v ∈ (Builtin.zeroCells z.cells n).toList, v.oneCell' = true := by
    intro v hv'
    rw [Array.mem_toList_iff, Array.mem_iff_getElem] at hv'
    obtain ⟨i, hi, rfl⟩ := hv'
    simp only [Builtin.zeroCells, Array.getElem_map, Array.getElem_range] at hi ⊢
    have hs : 0 < z.cells.size := by
      rcases Nat.eq_zero_or_pos z.cells.size with h | h
      · simp [h] at hi
      · exact h
    have hm := Nat.mod_lt i hs
    rw [getElem!_pos z.cells (i % z.cells.size) hm]
    exact h1 _ (by simp)
  have hst := run_storeCells_cells (P := P) b o (Builtin.zeroCells z.cells n).toList 0 w (by intro j hj; rw [Nat.add_zero]; exact hc j (by simpa [size_zeroCells] using hj)) (fun j _ => by rw [Nat.add_zero]; exact hf j) hz
  simp only [Nat.add_zero] at hst
  obtain ⟨m, rfl⟩ : ∃ m, n = m + 1 := ⟨n - 1, by omega⟩
  simp [Builtin.clear_, run_underlying ht, hv, hst]
theorem cloneR3c_any (g off n c : Nat) (xs : List R3) (w : World) (hs : SR3 w g off n xs) (hn : n ≤ 1048576) :
    Calls Try.prog 60 #[.slice (some ⟨g, off, none⟩) n c] w fun e w' => ∃ g2 c2, e = .returned (.slice (some ⟨g2, 0, none⟩) n c2) ∧ w.heap.size ≤ g2 ∧ OR3 w' g2 (g2 + 1) (some ⟨g2, 0, none⟩) n xs ∧ g2 < w'.heap.size ∧ n ≤ c2 ∧ Below w.heap.size w w' := by
  obtain ⟨i0, hi, hz0, hz1, hz2⟩ := info_parts infoCloneR3
  have hf := Lib.hid hs.flat
  have hl := Lib.hid hs.2.1
  have ho := Lib.hid (R3.one xs)
  have hg := hs.1
  have hlen : Hid ((xs.flatMap R3.cs).length = n * 3) := Lib.hid (by rw [flat_len R3.cs_len, hl.out])
  have Hi := Lib.hid hi
  have Hz0 := Lib.hid hz0
  have Hz1 := Lib.hid hz1
  have Hz2 := Lib.hid hz2
  have hq : ∀ w' : World, (binOp .eql 43 (.slice (some ⟨g, off, none⟩) n c) (.slice none 0 0)).run Try.prog w' = .ok (.bool false) w' := fun w' => Lib.run_eql_slice_nil w' _ _ (some ⟨g, off, none⟩) n c 0 0 Try.underlying43
  clear hi hz0 hz1 hz2 hs
  rcases Nat.eq_zero_or_pos n with h0 | h0
  · subst h0
    have hx : xs = [] := List.eq_nil_of_length_eq_zero hl.out
    subst hx
    go_enter Try.func60, Try.ntmps60
    go_wp2
    go_ret
    exact ⟨w.heap.size, 0, rfl, Nat.le_refl _, ⟨rfl, fun h => absurd h (by omega)⟩, by simp, by omega, (by repeat (with_reducible first | exact hbD | exact Below.refl _ _ | refine bw_later ?_ _ | refine bw_alloc ?_ _ | refine bw_drew ?_ | refine bw_set ?_ (Nat.le_refl _) _ | refine bw_set ?_ ?_ _ | exact Nat.le_refl _ | exact later_size _ _ | refine Nat.le_trans ?_ (later_size _ _) | refine Nat.le_trans ?_ (size_alloc_le _ _) | refine Nat.le_trans ?_ (Nat.le_add_right _ _)))⟩
  go_enter Try.func60, Try.ntmps60
  go_wp2_with (at_builtin; refine push_many rfl _ _ _ rfl i0 _ 3 24 Try.underlying43 Hi.out Hz0.out Hz1.out Hz2.out rfl (by decide) _ _ _ rfl (World.ownsRow_made w #[] 0 (Nat.le_refl _) (by decide) rfl) (w0 := w) (by repeat (with_reducible first | exact hbD | exact Below.refl _ _ | refine bw_later ?_ _ | refine bw_alloc ?_ _ | refine bw_drew ?_ | refine bw_set ?_ (Nat.le_refl _) _ | refine bw_set ?_ ?_ _ | exact Nat.le_refl _ | exact later_size _ _ | refine Nat.le_trans ?_ (later_size _ _) | refine Nat.le_trans ?_ (size_alloc_le _ _) | refine Nat.le_trans ?_ (Nat.le_add_right _ _))) ⟨g, off, none⟩ n c (xs.flatMap R3.cs) rfl hlen.out (fun j u hj => (Lib.cell?_alloc_some _ (hf.out j u hj))) ho.out (by omega) (by omega) ?_; intro v1 y1 hown1 hk1)
  go_ret
  simp only [List.nil_append, Nat.zero_add] at hown1
  obtain ⟨A, c2, rfl, hO⟩ := OR3_of_own hown1 hl.out
  have hcap := own_cap hown1
  obtain ⟨g2, e, h1, h2, h3, _⟩ := hO.cells h0
  subst e
  exact ⟨g2, c2, rfl, h1, hO.narrow, h3, hcap, (by repeat (with_reducible first | exact hbD | exact Below.refl _ _ | refine bw_later ?_ _ | refine bw_alloc ?_ _ | refine bw_drew ?_ | refine bw_set ?_ (Nat.le_refl _) _ | refine bw_set ?_ ?_ _ | exact Nat.le_refl _ | exact later_size _ _ | refine Nat.le_trans ?_ (later_size _ _) | refine Nat.le_trans ?_ (size_alloc_le _ _) | refine Nat.le_trans ?_ (Nat.le_add_right _ _)))⟩
theorem OR3.putFar {w : World} {lo hi g n q : Nat} {xs : List R3} (h : OR3 w lo hi (some ⟨g, 0, none⟩) n xs) (hq : n * 3 ≤ q) (u : Value) : OR3 (w.setCell ⟨g, q, none⟩ u) lo hi (some ⟨g, 0, none⟩) n xs :=
  ⟨h.1, fun hn => by
    obtain ⟨g', t, cur, e, h1, h2, hg, hs, hc⟩ := h.2 hn
    simp only [Option.some.injEq, Addr.mk.injEq, and_true] at e
    subst e
    refine ⟨g, t, cur.setIfInBounds q u, rfl, h1, h2, by simp [World.setCell, Array.getElem?_modify, hg], by simpa using hs, fun i r hi => ?_⟩
    have hin : i < n := by have := (List.getElem?_eq_some_iff.1 hi).1; have := h.1; omega
    have := hc i r hi
    simp only [Array.getElem?_setIfInBounds]
    refine ⟨?_, ?_, ?_⟩
    all_goals (rw [if_neg (by omega)]; simp [this])⟩
theorem OR3.clearFar {lo hi g n : Nat} {xs : List R3} : ∀ (vs : List Value) (q : Nat) (w : World), OR3 w lo hi (some ⟨g, 0, none⟩) n xs → n * 3 ≤ q → OR3 (w.setCells g q vs) lo hi (some ⟨g, 0, none⟩) n xs
  | [], _, _, h, _ => h
  | v :: r, q, w, h, hq => OR3.clearFar r (q + 1) _ (h.putFar hq v) (by omega)
theorem OR3.shrink {w : World} {lo hi g n m : Nat} {xs : List R3} (h : OR3 w lo hi (some ⟨g, 0, none⟩) n xs) (hm : m ≤ n) : OR3 w lo hi (some ⟨g, 0, none⟩) m (xs.take m) :=
  ⟨by rw [List.length_take, h.1]; omega, fun h0 => by
    obtain ⟨g', t, cur, e, h1, h2, hg, hs, hc⟩ := h.2 (by omega)
    refine ⟨g', t, cur, e, h1, h2, hg, by omega, fun i r hi => ?_⟩
    rw [List.getElem?_take] at hi
    split at hi
    · exact hc i r hi
    · cases hi⟩
end Go.Proofs.Ytagplkdeallbmaa
