/- Rows of a call's own: what stays of them while others are written. Marks. No program in sight. -/
import Derived.Test.YtnibhaabhjgmgaaDoorStructs
namespace Go.Proofs.YtnibhaabhjgmgaaDoor
open Go.RowKit
/-- Below the old size, only blocks from lo on and below hi have turned. -/
structure Tch (w w' : World) (lo hi : Nat) : Prop where
  os : w'.os = w.os
  tape : w'.tape = w.tape
  output : w'.output = w.output
  size : w.heap.size ≤ w'.heap.size
  block : ∀ k, k < w.heap.size → (k < lo ∨ hi ≤ k) → w'.heap[k]? = w.heap[k]?
theorem Tch.refl (w : World) (lo hi : Nat) : Tch w w lo hi := ⟨rfl, rfl, rfl, Nat.le_refl _, fun _ _ _ => rfl⟩
theorem Tch.set {w w' : World} {lo hi : Nat} (h : Tch w w' lo hi) {p : Addr} (h1 : lo ≤ p.block) (h2 : p.block < hi) (u : Value) : Tch w (w'.setCell p u) lo hi :=
  ⟨h.os, h.tape, h.output, by simpa [World.setCell] using h.size, fun k hk hd => (Below.heap_setCell w' p u k (by omega)).trans (h.block k hk hd)⟩
theorem Tch.below {w w' : World} {lo hi B : Nat} (h : Tch w w' lo hi) (hB : B ≤ lo) (hs : B ≤ w.heap.size) : Below B w w' := ⟨h.os, h.tape, h.output, h.size, fun k hk => h.block k (by omega) (.inl (by omega))⟩
/-- Slices of integers. -/
def SI (w : World) (g off n : Nat) (xs : List Int) : Prop := g < w.heap.size ∧ xs.length = n ∧ ∀ (i : Nat) (r : Int), xs[i]? = some r → w.cell? ⟨g, off + i, none⟩ = some (.int .i64 r)
def AI (w : World) (A : Option Addr) (n : Nat) (xs : List Int) : Prop := xs.length = n ∧ (0 < n → ∃ g off, A = some ⟨g, off, none⟩ ∧ SI w g off n xs)
section
variable {w w' : World} {g off n : Nat} {xs : List Int}
theorem SI.keep (h : SI w g off n xs) (hb : Below (g + 1) w w') : SI w' g off n xs := by
  refine ⟨Nat.lt_of_lt_of_le h.1 hb.size, h.2.1, fun i r hi => ?_⟩
  have := h.2.2 i r hi
  simp only [hb.cell (p := ⟨g, _, none⟩) (Nat.lt_succ_self g)]
  exact this
theorem SI.later (h : SI w g off n xs) (x : Lat w) : SI (later w x) g off n xs := h.keep ((later_below w x).mono h.1)
theorem SI.at_ (h : SI w g off n xs) {k : Nat} (hk : k < n) : ∃ r, xs[k]? = some r := ⟨xs[k]'(by have := h.2.1; omega), List.getElem?_eq_getElem _⟩
theorem AI.below2 {A : Option Addr} (h : AI w A n xs) (hb : Below w.heap.size w w') : AI w' A n xs :=
  ⟨h.1, fun hn => by obtain ⟨g, off, e, hs⟩ := h.2 hn; exact ⟨g, off, e, hs.keep (hb.mono hs.1)⟩⟩
theorem AI.of (h : SI w g off n xs) : AI w (some ⟨g, off, none⟩) n xs := ⟨h.2.1, fun _ => ⟨g, off, rfl, h⟩⟩
end

/-- A row of the call's own, or an empty one: its block lies from lo on and below hi, and may be written. -/
def OI (w : World) (lo hi : Nat) (A : Option Addr) (n : Nat) (xs : List Int) : Prop :=
  xs.length = n ∧ (0 < n → ∃ g t, ∃ cur : Array Value, A = some ⟨g, 0, none⟩ ∧ lo ≤ g ∧ g < hi ∧ w.heap[g]? = some (.cells cur t (0, 0)) ∧ n * 1 ≤ cur.size ∧ ∀ (i : Nat) (r : Int), xs[i]? = some r → cur[i]? = some (.int .i64 r))
section
variable {w w' : World} {lo hi lo' hi' n : Nat} {A : Option Addr} {xs : List Int}
theorem OI.tch (h : OI w lo hi A n xs) (ht : Tch w w' lo' hi') (hs : hi ≤ w.heap.size) (hd : hi ≤ lo' ∨ hi' ≤ lo) : OI w' lo hi A n xs :=
  ⟨h.1, fun hn => by
    obtain ⟨g, t, cur, e, h1, h2, hg, r⟩ := h.2 hn
    exact ⟨g, t, cur, e, h1, h2, (ht.block g (by omega) (by omega)).trans hg, r⟩⟩
theorem OI.below2 (h : OI w lo hi A n xs) (hb : Below w.heap.size w w') : OI w' lo hi A n xs :=
  ⟨h.1, fun hn => by
    obtain ⟨g, t, cur, e, h1, h2, hg, r⟩ := h.2 hn
    exact ⟨g, t, cur, e, h1, h2, (hb.block g (Array.getElem?_eq_some_iff.1 hg).1).trans hg, r⟩⟩
theorem OI.cells (h : OI w lo hi A n xs) (hn : 0 < n) : ∃ g, A = some ⟨g, 0, none⟩ ∧ lo ≤ g ∧ g < hi ∧ g < w.heap.size ∧ (∀ i, w.frozen? ⟨g, i, none⟩ = false) ∧ ∀ (i : Nat) (r : Int), xs[i]? = some r → w.cell? ⟨g, i, none⟩ = some (.int .i64 r) := by
  obtain ⟨g, t, cur, e, h1, h2, hg, _, hc⟩ := h.2 hn
  refine ⟨g, e, h1, h2, (Array.getElem?_eq_some_iff.1 hg).1, fun i => by simp [World.frozen?, hg], fun i r hi => ?_⟩
  simp only [cell_of_row w g _ cur t (0, 0) hg]
  exact hc i r hi
theorem OI.at_ (h : OI w lo hi A n xs) {k : Nat} (hk : k < n) : ∃ r, xs[k]? = some r := ⟨xs[k]'(by have := h.1; omega), List.getElem?_eq_getElem _⟩
theorem OI.wide (h : OI w lo hi A n xs) (h1 : lo' ≤ lo) (h2 : hi ≤ hi') : OI w lo' hi' A n xs :=
  ⟨h.1, fun hn => by
    obtain ⟨g, t, cur, e, k1, k2, r⟩ := h.2 hn
    exact ⟨g, t, cur, e, by omega, by omega, r⟩⟩
theorem OI.reads (h : OI w lo hi A n xs) : AI w A n xs :=
  ⟨h.1, fun hn => by
    obtain ⟨g, e, _, _, h1, _, h3⟩ := h.cells hn
    exact ⟨g, 0, e, h1, h.1, fun i r hi => by simpa using h3 i r hi⟩⟩
theorem OI.put0 {g : Nat} (h : OI w lo hi (some ⟨g, 0, none⟩) n xs) {k : Nat} {r : Int} (hk : xs[k]? = some r) (x : Int) : OI (w.setCell ⟨g, k, none⟩ (.int .i64 x)) lo hi (some ⟨g, 0, none⟩) n (xs.set k x) := by
  have hkl : k < xs.length := (List.getElem?_eq_some_iff.1 hk).1
  refine ⟨by simpa using h.1, fun hn => ?_⟩
  obtain ⟨g', t, cur, e, h1, h2, hg, hs, hc⟩ := h.2 hn
  simp only [Option.some.injEq, Addr.mk.injEq, and_true] at e
  subst e
  have hl := h.1
  refine ⟨g, t, cur.setIfInBounds (k) (.int .i64 x), rfl, h1, h2, by simp [World.setCell, Array.getElem?_modify, hg], by simpa using hs, fun i q hi => ?_⟩
  simp only [Array.getElem?_setIfInBounds]
  rw [List.getElem?_set] at hi
  by_cases e : k = i
  · subst e
    rw [if_pos rfl, if_pos hkl] at hi
    simp only [Option.some.injEq] at hi
    subst hi
    have := hc k r hk
    skip
    all_goals first | (rw [if_pos (by omega), if_pos (by omega)]; done) | (rw [if_neg (by omega)]; simp [this])
  · rw [if_neg e] at hi
    have := hc i q hi
    skip
    all_goals (rw [if_neg (by omega)]; simp [this])
end
def I.mk_ (k : Int) : Int := k
def I.marked (n : Nat) (k : Int) : List Int := (List.range n).map fun i : Nat => I.mk_ (k + (i : Int))
theorem I.marked_at {n i : Nat} (k : Int) (hi : i < n) : (I.marked n k)[i]? = some (I.mk_ (k + (i : Int))) := by simp [I.marked, List.getElem?_range hi]
theorem I.marked_len (n : Nat) (k : Int) : (I.marked n k).length = n := by simp [I.marked]

theorem OI.store {w : World} {g lo hi n : Nat} {xs : List Int} (h : OI w lo hi (some ⟨g, 0, none⟩) n xs) {k : Nat} {q : Int} (hk : xs[k]? = some q) (r : Int) : OI (w.setCell ⟨g, k, none⟩ (.int .i64 r)) lo hi (some ⟨g, 0, none⟩) n (xs.set k r) := by
  have hkl : k < xs.length := (List.getElem?_eq_some_iff.1 hk).1
  have p0 := h.put0 (k := k) (r := q) hk r
  simpa only [List.set_set] using p0


/-- A row of the call's own, or an empty one: its block lies from lo on and below hi, and may be written. -/
def OR2 (w : World) (lo hi : Nat) (A : Option Addr) (n : Nat) (xs : List R2) : Prop :=
  xs.length = n ∧ (0 < n → ∃ g t, ∃ cur : Array Value, A = some ⟨g, 0, none⟩ ∧ lo ≤ g ∧ g < hi ∧ w.heap[g]? = some (.cells cur t (0, 0)) ∧ n * 2 ≤ cur.size ∧ ∀ (i : Nat) (r : R2), xs[i]? = some r → cur[i * 2]? = some (.int .i64 r.a) ∧ cur[i * 2 + 1]? = some (.int .i64 r.b))
section
variable {w w' : World} {lo hi lo' hi' n : Nat} {A : Option Addr} {xs : List R2}
theorem OR2.tch (h : OR2 w lo hi A n xs) (ht : Tch w w' lo' hi') (hs : hi ≤ w.heap.size) (hd : hi ≤ lo' ∨ hi' ≤ lo) : OR2 w' lo hi A n xs :=
  ⟨h.1, fun hn => by
    obtain ⟨g, t, cur, e, h1, h2, hg, r⟩ := h.2 hn
    exact ⟨g, t, cur, e, h1, h2, (ht.block g (by omega) (by omega)).trans hg, r⟩⟩
theorem OR2.below2 (h : OR2 w lo hi A n xs) (hb : Below w.heap.size w w') : OR2 w' lo hi A n xs :=
  ⟨h.1, fun hn => by
    obtain ⟨g, t, cur, e, h1, h2, hg, r⟩ := h.2 hn
    exact ⟨g, t, cur, e, h1, h2, (hb.block g (Array.getElem?_eq_some_iff.1 hg).1).trans hg, r⟩⟩
theorem OR2.cells (h : OR2 w lo hi A n xs) (hn : 0 < n) : ∃ g, A = some ⟨g, 0, none⟩ ∧ lo ≤ g ∧ g < hi ∧ g < w.heap.size ∧ (∀ i, w.frozen? ⟨g, i, none⟩ = false) ∧ ∀ (i : Nat) (r : R2), xs[i]? = some r → w.cell? ⟨g, i * 2, none⟩ = some (.int .i64 r.a) ∧ w.cell? ⟨g, i * 2 + 1, none⟩ = some (.int .i64 r.b) := by
  obtain ⟨g, t, cur, e, h1, h2, hg, _, hc⟩ := h.2 hn
  refine ⟨g, e, h1, h2, (Array.getElem?_eq_some_iff.1 hg).1, fun i => by simp [World.frozen?, hg], fun i r hi => ?_⟩
  simp only [cell_of_row w g _ cur t (0, 0) hg]
  exact hc i r hi
theorem OR2.at_ (h : OR2 w lo hi A n xs) {k : Nat} (hk : k < n) : ∃ r, xs[k]? = some r := ⟨xs[k]'(by have := h.1; omega), List.getElem?_eq_getElem _⟩
theorem OR2.wide (h : OR2 w lo hi A n xs) (h1 : lo' ≤ lo) (h2 : hi ≤ hi') : OR2 w lo' hi' A n xs :=
  ⟨h.1, fun hn => by
    obtain ⟨g, t, cur, e, k1, k2, r⟩ := h.2 hn
    exact ⟨g, t, cur, e, by omega, by omega, r⟩⟩
theorem OR2.reads (h : OR2 w lo hi A n xs) : AR2 w A n xs :=
  ⟨h.1, fun hn => by
    obtain ⟨g, e, _, _, h1, _, h3⟩ := h.cells hn
    exact ⟨g, 0, e, h1, h.1, fun i r hi => by simpa using h3 i r hi⟩⟩
theorem BR2.own {g T : Nat} (h : BR2 w g T n xs) (h1 : lo ≤ g) (h2 : g < hi) : OR2 w lo hi (some ⟨g, 0, none⟩) n xs := by
  obtain ⟨cur, hg, hs, hl, hc⟩ := h
  exact ⟨hl, fun _ => ⟨g, T, cur, rfl, h1, h2, hg, by omega, hc⟩⟩
theorem OR2.put0 {g : Nat} (h : OR2 w lo hi (some ⟨g, 0, none⟩) n xs) {k : Nat} {r : R2} (hk : xs[k]? = some r) (x : Int) : OR2 (w.setCell ⟨g, k * 2, none⟩ (.int .i64 x)) lo hi (some ⟨g, 0, none⟩) n (xs.set k { r with a := x }) := by
  have hkl : k < xs.length := (List.getElem?_eq_some_iff.1 hk).1
  refine ⟨by simpa using h.1, fun hn => ?_⟩
  obtain ⟨g', t, cur, e, h1, h2, hg, hs, hc⟩ := h.2 hn
  simp only [Option.some.injEq, Addr.mk.injEq, and_true] at e
  subst e
  have hl := h.1
  refine ⟨g, t, cur.setIfInBounds (k * 2) (.int .i64 x), rfl, h1, h2, by simp [World.setCell, Array.getElem?_modify, hg], by simpa using hs, fun i q hi => ?_⟩
  simp only [Array.getElem?_setIfInBounds]
  rw [List.getElem?_set] at hi
  by_cases e : k = i
  · subst e
    rw [if_pos rfl, if_pos hkl] at hi
    simp only [Option.some.injEq] at hi
    subst hi
    have := hc k r hk
    refine ⟨?_, ?_⟩
    all_goals first | (rw [if_pos (by omega), if_pos (by omega)]; done) | (rw [if_neg (by omega)]; simp [this])
  · rw [if_neg e] at hi
    have := hc i q hi
    refine ⟨?_, ?_⟩
    all_goals (rw [if_neg (by omega)]; simp [this])
theorem OR2.put1 {g : Nat} (h : OR2 w lo hi (some ⟨g, 0, none⟩) n xs) {k : Nat} {r : R2} (hk : xs[k]? = some r) (x : Int) : OR2 (w.setCell ⟨g, k * 2 + 1, none⟩ (.int .i64 x)) lo hi (some ⟨g, 0, none⟩) n (xs.set k { r with b := x }) := by
  have hkl : k < xs.length := (List.getElem?_eq_some_iff.1 hk).1
  refine ⟨by simpa using h.1, fun hn => ?_⟩
  obtain ⟨g', t, cur, e, h1, h2, hg, hs, hc⟩ := h.2 hn
  simp only [Option.some.injEq, Addr.mk.injEq, and_true] at e
  subst e
  have hl := h.1
  refine ⟨g, t, cur.setIfInBounds (k * 2 + 1) (.int .i64 x), rfl, h1, h2, by simp [World.setCell, Array.getElem?_modify, hg], by simpa using hs, fun i q hi => ?_⟩
  simp only [Array.getElem?_setIfInBounds]
  rw [List.getElem?_set] at hi
  by_cases e : k = i
  · subst e
    rw [if_pos rfl, if_pos hkl] at hi
    simp only [Option.some.injEq] at hi
    subst hi
    have := hc k r hk
    refine ⟨?_, ?_⟩
    all_goals first | (rw [if_pos (by omega), if_pos (by omega)]; done) | (rw [if_neg (by omega)]; simp [this])
  · rw [if_neg e] at hi
    have := hc i q hi
    refine ⟨?_, ?_⟩
    all_goals (rw [if_neg (by omega)]; simp [this])
end
def R2.mk_ (k : Int) : R2 := ⟨k, k + 1⟩
def R2.marked (n : Nat) (k : Int) : List R2 := (List.range n).map fun i : Nat => R2.mk_ (k + (i : Int) * 2)
theorem R2.marked_at {n i : Nat} (k : Int) (hi : i < n) : (R2.marked n k)[i]? = some (R2.mk_ (k + (i : Int) * 2)) := by simp [R2.marked, List.getElem?_range hi]
theorem R2.marked_len (n : Nat) (k : Int) : (R2.marked n k).length = n := by simp [R2.marked]

theorem OR2.store {w : World} {g lo hi n : Nat} {xs : List R2} (h : OR2 w lo hi (some ⟨g, 0, none⟩) n xs) {k : Nat} {q : R2} (hk : xs[k]? = some q) (r : R2) : OR2 ((w.setCell ⟨g, k * 2, none⟩ (.int .i64 r.a)).setCell ⟨g, k * 2 + 1, none⟩ (.int .i64 r.b)) lo hi (some ⟨g, 0, none⟩) n (xs.set k r) := by
  have hkl : k < xs.length := (List.getElem?_eq_some_iff.1 hk).1
  have p0 := h.put0 (k := k) (r := q) hk r.a
  have p1 := p0.put1 (k := k) (r := { q with a := r.a }) (by simp [hkl]) r.b
  simpa only [List.set_set] using p1


/-- A row of the call's own, or an empty one: its block lies from lo on and below hi, and may be written. -/
def OR3 (w : World) (lo hi : Nat) (A : Option Addr) (n : Nat) (xs : List R3) : Prop :=
  xs.length = n ∧ (0 < n → ∃ g t, ∃ cur : Array Value, A = some ⟨g, 0, none⟩ ∧ lo ≤ g ∧ g < hi ∧ w.heap[g]? = some (.cells cur t (0, 0)) ∧ n * 3 ≤ cur.size ∧ ∀ (i : Nat) (r : R3), xs[i]? = some r → cur[i * 3]? = some (.int .i64 r.a) ∧ cur[i * 3 + 1]? = some (.int .i64 r.b) ∧ cur[i * 3 + 2]? = some (.int .i64 r.c))
section
variable {w w' : World} {lo hi lo' hi' n : Nat} {A : Option Addr} {xs : List R3}
theorem OR3.tch (h : OR3 w lo hi A n xs) (ht : Tch w w' lo' hi') (hs : hi ≤ w.heap.size) (hd : hi ≤ lo' ∨ hi' ≤ lo) : OR3 w' lo hi A n xs :=
  ⟨h.1, fun hn => by
    obtain ⟨g, t, cur, e, h1, h2, hg, r⟩ := h.2 hn
    exact ⟨g, t, cur, e, h1, h2, (ht.block g (by omega) (by omega)).trans hg, r⟩⟩
theorem OR3.below2 (h : OR3 w lo hi A n xs) (hb : Below w.heap.size w w') : OR3 w' lo hi A n xs :=
  ⟨h.1, fun hn => by
    obtain ⟨g, t, cur, e, h1, h2, hg, r⟩ := h.2 hn
    exact ⟨g, t, cur, e, h1, h2, (hb.block g (Array.getElem?_eq_some_iff.1 hg).1).trans hg, r⟩⟩
theorem OR3.cells (h : OR3 w lo hi A n xs) (hn : 0 < n) : ∃ g, A = some ⟨g, 0, none⟩ ∧ lo ≤ g ∧ g < hi ∧ g < w.heap.size ∧ (∀ i, w.frozen? ⟨g, i, none⟩ = false) ∧ ∀ (i : Nat) (r : R3), xs[i]? = some r → w.cell? ⟨g, i * 3, none⟩ = some (.int .i64 r.a) ∧ w.cell? ⟨g, i * 3 + 1, none⟩ = some (.int .i64 r.b) ∧ w.cell? ⟨g, i * 3 + 2, none⟩ = some (.int .i64 r.c) := by
  obtain ⟨g, t, cur, e, h1, h2, hg, _, hc⟩ := h.2 hn
  refine ⟨g, e, h1, h2, (Array.getElem?_eq_some_iff.1 hg).1, fun i => by simp [World.frozen?, hg], fun i r hi => ?_⟩
  simp only [cell_of_row w g _ cur t (0, 0) hg]
  exact hc i r hi
theorem OR3.at_ (h : OR3 w lo hi A n xs) {k : Nat} (hk : k < n) : ∃ r, xs[k]? = some r := ⟨xs[k]'(by have := h.1; omega), List.getElem?_eq_getElem _⟩
theorem OR3.wide (h : OR3 w lo hi A n xs) (h1 : lo' ≤ lo) (h2 : hi ≤ hi') : OR3 w lo' hi' A n xs :=
  ⟨h.1, fun hn => by
    obtain ⟨g, t, cur, e, k1, k2, r⟩ := h.2 hn
    exact ⟨g, t, cur, e, by omega, by omega, r⟩⟩
theorem OR3.reads (h : OR3 w lo hi A n xs) : AR3 w A n xs :=
  ⟨h.1, fun hn => by
    obtain ⟨g, e, _, _, h1, _, h3⟩ := h.cells hn
    exact ⟨g, 0, e, h1, h.1, fun i r hi => by simpa using h3 i r hi⟩⟩
theorem BR3.own {g T : Nat} (h : BR3 w g T n xs) (h1 : lo ≤ g) (h2 : g < hi) : OR3 w lo hi (some ⟨g, 0, none⟩) n xs := by
  obtain ⟨cur, hg, hs, hl, hc⟩ := h
  exact ⟨hl, fun _ => ⟨g, T, cur, rfl, h1, h2, hg, by omega, hc⟩⟩
theorem OR3.put0 {g : Nat} (h : OR3 w lo hi (some ⟨g, 0, none⟩) n xs) {k : Nat} {r : R3} (hk : xs[k]? = some r) (x : Int) : OR3 (w.setCell ⟨g, k * 3, none⟩ (.int .i64 x)) lo hi (some ⟨g, 0, none⟩) n (xs.set k { r with a := x }) := by
  have hkl : k < xs.length := (List.getElem?_eq_some_iff.1 hk).1
  refine ⟨by simpa using h.1, fun hn => ?_⟩
  obtain ⟨g', t, cur, e, h1, h2, hg, hs, hc⟩ := h.2 hn
  simp only [Option.some.injEq, Addr.mk.injEq, and_true] at e
  subst e
  have hl := h.1
  refine ⟨g, t, cur.setIfInBounds (k * 3) (.int .i64 x), rfl, h1, h2, by simp [World.setCell, Array.getElem?_modify, hg], by simpa using hs, fun i q hi => ?_⟩
  simp only [Array.getElem?_setIfInBounds]
  rw [List.getElem?_set] at hi
  by_cases e : k = i
  · subst e
    rw [if_pos rfl, if_pos hkl] at hi
    simp only [Option.some.injEq] at hi
    subst hi
    have := hc k r hk
    refine ⟨?_, ?_, ?_⟩
    all_goals first | (rw [if_pos (by omega), if_pos (by omega)]; done) | (rw [if_neg (by omega)]; simp [this])
  · rw [if_neg e] at hi
    have := hc i q hi
    refine ⟨?_, ?_, ?_⟩
    all_goals (rw [if_neg (by omega)]; simp [this])
theorem OR3.put1 {g : Nat} (h : OR3 w lo hi (some ⟨g, 0, none⟩) n xs) {k : Nat} {r : R3} (hk : xs[k]? = some r) (x : Int) : OR3 (w.setCell ⟨g, k * 3 + 1, none⟩ (.int .i64 x)) lo hi (some ⟨g, 0, none⟩) n (xs.set k { r with b := x }) := by
  have hkl : k < xs.length := (List.getElem?_eq_some_iff.1 hk).1
  refine ⟨by simpa using h.1, fun hn => ?_⟩
  obtain ⟨g', t, cur, e, h1, h2, hg, hs, hc⟩ := h.2 hn
  simp only [Option.some.injEq, Addr.mk.injEq, and_true] at e
  subst e
  have hl := h.1
  refine ⟨g, t, cur.setIfInBounds (k * 3 + 1) (.int .i64 x), rfl, h1, h2, by simp [World.setCell, Array.getElem?_modify, hg], by simpa using hs, fun i q hi => ?_⟩
  simp only [Array.getElem?_setIfInBounds]
  rw [List.getElem?_set] at hi
  by_cases e : k = i
  · subst e
    rw [if_pos rfl, if_pos hkl] at hi
    simp only [Option.some.injEq] at hi
    subst hi
    have := hc k r hk
    refine ⟨?_, ?_, ?_⟩
    all_goals first | (rw [if_pos (by omega), if_pos (by omega)]; done) | (rw [if_neg (by omega)]; simp [this])
  · rw [if_neg e] at hi
    have := hc i q hi
    refine ⟨?_, ?_, ?_⟩
    all_goals (rw [if_neg (by omega)]; simp [this])
theorem OR3.put2 {g : Nat} (h : OR3 w lo hi (some ⟨g, 0, none⟩) n xs) {k : Nat} {r : R3} (hk : xs[k]? = some r) (x : Int) : OR3 (w.setCell ⟨g, k * 3 + 2, none⟩ (.int .i64 x)) lo hi (some ⟨g, 0, none⟩) n (xs.set k { r with c := x }) := by
  have hkl : k < xs.length := (List.getElem?_eq_some_iff.1 hk).1
  refine ⟨by simpa using h.1, fun hn => ?_⟩
  obtain ⟨g', t, cur, e, h1, h2, hg, hs, hc⟩ := h.2 hn
  simp only [Option.some.injEq, Addr.mk.injEq, and_true] at e
  subst e
  have hl := h.1
  refine ⟨g, t, cur.setIfInBounds (k * 3 + 2) (.int .i64 x), rfl, h1, h2, by simp [World.setCell, Array.getElem?_modify, hg], by simpa using hs, fun i q hi => ?_⟩
  simp only [Array.getElem?_setIfInBounds]
  rw [List.getElem?_set] at hi
  by_cases e : k = i
  · subst e
    rw [if_pos rfl, if_pos hkl] at hi
    simp only [Option.some.injEq] at hi
    subst hi
    have := hc k r hk
    refine ⟨?_, ?_, ?_⟩
    all_goals first | (rw [if_pos (by omega), if_pos (by omega)]; done) | (rw [if_neg (by omega)]; simp [this])
  · rw [if_neg e] at hi
    have := hc i q hi
    refine ⟨?_, ?_, ?_⟩
    all_goals (rw [if_neg (by omega)]; simp [this])
end
def R3.mk_ (k : Int) : R3 := ⟨k, k + 1, k + 1 + 1⟩
def R3.marked (n : Nat) (k : Int) : List R3 := (List.range n).map fun i : Nat => R3.mk_ (k + (i : Int) * 3)
theorem R3.marked_at {n i : Nat} (k : Int) (hi : i < n) : (R3.marked n k)[i]? = some (R3.mk_ (k + (i : Int) * 3)) := by simp [R3.marked, List.getElem?_range hi]
theorem R3.marked_len (n : Nat) (k : Int) : (R3.marked n k).length = n := by simp [R3.marked]

theorem OR3.store {w : World} {g lo hi n : Nat} {xs : List R3} (h : OR3 w lo hi (some ⟨g, 0, none⟩) n xs) {k : Nat} {q : R3} (hk : xs[k]? = some q) (r : R3) : OR3 (((w.setCell ⟨g, k * 3, none⟩ (.int .i64 r.a)).setCell ⟨g, k * 3 + 1, none⟩ (.int .i64 r.b)).setCell ⟨g, k * 3 + 2, none⟩ (.int .i64 r.c)) lo hi (some ⟨g, 0, none⟩) n (xs.set k r) := by
  have hkl : k < xs.length := (List.getElem?_eq_some_iff.1 hk).1
  have p0 := h.put0 (k := k) (r := q) hk r.a
  have p1 := p0.put1 (k := k) (r := { q with a := r.a }) (by simp [hkl]) r.b
  have p2 := p1.put2 (k := k) (r := { { q with a := r.a } with b := r.b }) (by simp [hkl]) r.c
  simpa only [List.set_set] using p2


/-- A row of the call's own, or an empty one: its block lies from lo on and below hi, and may be written. -/
def OSup (w : World) (lo hi : Nat) (A : Option Addr) (n : Nat) (xs : List Sup) : Prop :=
  xs.length = n ∧ (0 < n → ∃ g t, ∃ cur : Array Value, A = some ⟨g, 0, none⟩ ∧ lo ≤ g ∧ g < hi ∧ w.heap[g]? = some (.cells cur t (0, 0)) ∧ n * 3 ≤ cur.size ∧ ∀ (i : Nat) (r : Sup), xs[i]? = some r → cur[i * 3]? = some (.int .i64 r.at_) ∧ cur[i * 3 + 1]? = some (.int .i64 r.h) ∧ cur[i * 3 + 2]? = some (.bool r.st))
section
variable {w w' : World} {lo hi lo' hi' n : Nat} {A : Option Addr} {xs : List Sup}
theorem OSup.tch (h : OSup w lo hi A n xs) (ht : Tch w w' lo' hi') (hs : hi ≤ w.heap.size) (hd : hi ≤ lo' ∨ hi' ≤ lo) : OSup w' lo hi A n xs :=
  ⟨h.1, fun hn => by
    obtain ⟨g, t, cur, e, h1, h2, hg, r⟩ := h.2 hn
    exact ⟨g, t, cur, e, h1, h2, (ht.block g (by omega) (by omega)).trans hg, r⟩⟩
theorem OSup.below2 (h : OSup w lo hi A n xs) (hb : Below w.heap.size w w') : OSup w' lo hi A n xs :=
  ⟨h.1, fun hn => by
    obtain ⟨g, t, cur, e, h1, h2, hg, r⟩ := h.2 hn
    exact ⟨g, t, cur, e, h1, h2, (hb.block g (Array.getElem?_eq_some_iff.1 hg).1).trans hg, r⟩⟩
theorem OSup.cells (h : OSup w lo hi A n xs) (hn : 0 < n) : ∃ g, A = some ⟨g, 0, none⟩ ∧ lo ≤ g ∧ g < hi ∧ g < w.heap.size ∧ (∀ i, w.frozen? ⟨g, i, none⟩ = false) ∧ ∀ (i : Nat) (r : Sup), xs[i]? = some r → w.cell? ⟨g, i * 3, none⟩ = some (.int .i64 r.at_) ∧ w.cell? ⟨g, i * 3 + 1, none⟩ = some (.int .i64 r.h) ∧ w.cell? ⟨g, i * 3 + 2, none⟩ = some (.bool r.st) := by
  obtain ⟨g, t, cur, e, h1, h2, hg, _, hc⟩ := h.2 hn
  refine ⟨g, e, h1, h2, (Array.getElem?_eq_some_iff.1 hg).1, fun i => by simp [World.frozen?, hg], fun i r hi => ?_⟩
  simp only [cell_of_row w g _ cur t (0, 0) hg]
  exact hc i r hi
theorem OSup.at_ (h : OSup w lo hi A n xs) {k : Nat} (hk : k < n) : ∃ r, xs[k]? = some r := ⟨xs[k]'(by have := h.1; omega), List.getElem?_eq_getElem _⟩
theorem OSup.wide (h : OSup w lo hi A n xs) (h1 : lo' ≤ lo) (h2 : hi ≤ hi') : OSup w lo' hi' A n xs :=
  ⟨h.1, fun hn => by
    obtain ⟨g, t, cur, e, k1, k2, r⟩ := h.2 hn
    exact ⟨g, t, cur, e, by omega, by omega, r⟩⟩
theorem OSup.reads (h : OSup w lo hi A n xs) : ASup w A n xs :=
  ⟨h.1, fun hn => by
    obtain ⟨g, e, _, _, h1, _, h3⟩ := h.cells hn
    exact ⟨g, 0, e, h1, h.1, fun i r hi => by simpa using h3 i r hi⟩⟩
theorem BSup.own {g T : Nat} (h : BSup w g T n xs) (h1 : lo ≤ g) (h2 : g < hi) : OSup w lo hi (some ⟨g, 0, none⟩) n xs := by
  obtain ⟨cur, hg, hs, hl, hc⟩ := h
  exact ⟨hl, fun _ => ⟨g, T, cur, rfl, h1, h2, hg, by omega, hc⟩⟩
theorem OSup.put0 {g : Nat} (h : OSup w lo hi (some ⟨g, 0, none⟩) n xs) {k : Nat} {r : Sup} (hk : xs[k]? = some r) (x : Int) : OSup (w.setCell ⟨g, k * 3, none⟩ (.int .i64 x)) lo hi (some ⟨g, 0, none⟩) n (xs.set k { r with at_ := x }) := by
  have hkl : k < xs.length := (List.getElem?_eq_some_iff.1 hk).1
  refine ⟨by simpa using h.1, fun hn => ?_⟩
  obtain ⟨g', t, cur, e, h1, h2, hg, hs, hc⟩ := h.2 hn
  simp only [Option.some.injEq, Addr.mk.injEq, and_true] at e
  subst e
  have hl := h.1
  refine ⟨g, t, cur.setIfInBounds (k * 3) (.int .i64 x), rfl, h1, h2, by simp [World.setCell, Array.getElem?_modify, hg], by simpa using hs, fun i q hi => ?_⟩
  simp only [Array.getElem?_setIfInBounds]
  rw [List.getElem?_set] at hi
  by_cases e : k = i
  · subst e
    rw [if_pos rfl, if_pos hkl] at hi
    simp only [Option.some.injEq] at hi
    subst hi
    have := hc k r hk
    refine ⟨?_, ?_, ?_⟩
    all_goals first | (rw [if_pos (by omega), if_pos (by omega)]; done) | (rw [if_neg (by omega)]; simp [this])
  · rw [if_neg e] at hi
    have := hc i q hi
    refine ⟨?_, ?_, ?_⟩
    all_goals (rw [if_neg (by omega)]; simp [this])
theorem OSup.put1 {g : Nat} (h : OSup w lo hi (some ⟨g, 0, none⟩) n xs) {k : Nat} {r : Sup} (hk : xs[k]? = some r) (x : Int) : OSup (w.setCell ⟨g, k * 3 + 1, none⟩ (.int .i64 x)) lo hi (some ⟨g, 0, none⟩) n (xs.set k { r with h := x }) := by
  have hkl : k < xs.length := (List.getElem?_eq_some_iff.1 hk).1
  refine ⟨by simpa using h.1, fun hn => ?_⟩
  obtain ⟨g', t, cur, e, h1, h2, hg, hs, hc⟩ := h.2 hn
  simp only [Option.some.injEq, Addr.mk.injEq, and_true] at e
  subst e
  have hl := h.1
  refine ⟨g, t, cur.setIfInBounds (k * 3 + 1) (.int .i64 x), rfl, h1, h2, by simp [World.setCell, Array.getElem?_modify, hg], by simpa using hs, fun i q hi => ?_⟩
  simp only [Array.getElem?_setIfInBounds]
  rw [List.getElem?_set] at hi
  by_cases e : k = i
  · subst e
    rw [if_pos rfl, if_pos hkl] at hi
    simp only [Option.some.injEq] at hi
    subst hi
    have := hc k r hk
    refine ⟨?_, ?_, ?_⟩
    all_goals first | (rw [if_pos (by omega), if_pos (by omega)]; done) | (rw [if_neg (by omega)]; simp [this])
  · rw [if_neg e] at hi
    have := hc i q hi
    refine ⟨?_, ?_, ?_⟩
    all_goals (rw [if_neg (by omega)]; simp [this])
theorem OSup.put2 {g : Nat} (h : OSup w lo hi (some ⟨g, 0, none⟩) n xs) {k : Nat} {r : Sup} (hk : xs[k]? = some r) (x : Bool) : OSup (w.setCell ⟨g, k * 3 + 2, none⟩ (.bool x)) lo hi (some ⟨g, 0, none⟩) n (xs.set k { r with st := x }) := by
  have hkl : k < xs.length := (List.getElem?_eq_some_iff.1 hk).1
  refine ⟨by simpa using h.1, fun hn => ?_⟩
  obtain ⟨g', t, cur, e, h1, h2, hg, hs, hc⟩ := h.2 hn
  simp only [Option.some.injEq, Addr.mk.injEq, and_true] at e
  subst e
  have hl := h.1
  refine ⟨g, t, cur.setIfInBounds (k * 3 + 2) (.bool x), rfl, h1, h2, by simp [World.setCell, Array.getElem?_modify, hg], by simpa using hs, fun i q hi => ?_⟩
  simp only [Array.getElem?_setIfInBounds]
  rw [List.getElem?_set] at hi
  by_cases e : k = i
  · subst e
    rw [if_pos rfl, if_pos hkl] at hi
    simp only [Option.some.injEq] at hi
    subst hi
    have := hc k r hk
    refine ⟨?_, ?_, ?_⟩
    all_goals first | (rw [if_pos (by omega), if_pos (by omega)]; done) | (rw [if_neg (by omega)]; simp [this])
  · rw [if_neg e] at hi
    have := hc i q hi
    refine ⟨?_, ?_, ?_⟩
    all_goals (rw [if_neg (by omega)]; simp [this])
end
def Sup.mk_ (k : Int) : Sup := ⟨k, k + 1, (k + 1 + 1) % 3 == 0⟩
def Sup.marked (n : Nat) (k : Int) : List Sup := (List.range n).map fun i : Nat => Sup.mk_ (k + (i : Int) * 3)
theorem Sup.marked_at {n i : Nat} (k : Int) (hi : i < n) : (Sup.marked n k)[i]? = some (Sup.mk_ (k + (i : Int) * 3)) := by simp [Sup.marked, List.getElem?_range hi]
theorem Sup.marked_len (n : Nat) (k : Int) : (Sup.marked n k).length = n := by simp [Sup.marked]

theorem OSup.store {w : World} {g lo hi n : Nat} {xs : List Sup} (h : OSup w lo hi (some ⟨g, 0, none⟩) n xs) {k : Nat} {q : Sup} (hk : xs[k]? = some q) (r : Sup) : OSup (((w.setCell ⟨g, k * 3, none⟩ (.int .i64 r.at_)).setCell ⟨g, k * 3 + 1, none⟩ (.int .i64 r.h)).setCell ⟨g, k * 3 + 2, none⟩ (.bool r.st)) lo hi (some ⟨g, 0, none⟩) n (xs.set k r) := by
  have hkl : k < xs.length := (List.getElem?_eq_some_iff.1 hk).1
  have p0 := h.put0 (k := k) (r := q) hk r.at_
  have p1 := p0.put1 (k := k) (r := { q with at_ := r.at_ }) (by simp [hkl]) r.h
  have p2 := p1.put2 (k := k) (r := { { q with at_ := r.at_ } with h := r.h }) (by simp [hkl]) r.st
  simpa only [List.set_set] using p2


/-- A row of the call's own, or an empty one: its block lies from lo on and below hi, and may be written. -/
def OR5 (w : World) (lo hi : Nat) (A : Option Addr) (n : Nat) (xs : List R5) : Prop :=
  xs.length = n ∧ (0 < n → ∃ g t, ∃ cur : Array Value, A = some ⟨g, 0, none⟩ ∧ lo ≤ g ∧ g < hi ∧ w.heap[g]? = some (.cells cur t (0, 0)) ∧ n * 5 ≤ cur.size ∧ ∀ (i : Nat) (r : R5), xs[i]? = some r → cur[i * 5]? = some (.int .i64 r.a) ∧ cur[i * 5 + 1]? = some (.int .i64 r.b) ∧ cur[i * 5 + 2]? = some (.int .i64 r.c) ∧ cur[i * 5 + 3]? = some (.int .i64 r.d) ∧ cur[i * 5 + 4]? = some (.int .i64 r.e))
section
variable {w w' : World} {lo hi lo' hi' n : Nat} {A : Option Addr} {xs : List R5}
theorem OR5.tch (h : OR5 w lo hi A n xs) (ht : Tch w w' lo' hi') (hs : hi ≤ w.heap.size) (hd : hi ≤ lo' ∨ hi' ≤ lo) : OR5 w' lo hi A n xs :=
  ⟨h.1, fun hn => by
    obtain ⟨g, t, cur, e, h1, h2, hg, r⟩ := h.2 hn
    exact ⟨g, t, cur, e, h1, h2, (ht.block g (by omega) (by omega)).trans hg, r⟩⟩
theorem OR5.below2 (h : OR5 w lo hi A n xs) (hb : Below w.heap.size w w') : OR5 w' lo hi A n xs :=
  ⟨h.1, fun hn => by
    obtain ⟨g, t, cur, e, h1, h2, hg, r⟩ := h.2 hn
    exact ⟨g, t, cur, e, h1, h2, (hb.block g (Array.getElem?_eq_some_iff.1 hg).1).trans hg, r⟩⟩
theorem OR5.cells (h : OR5 w lo hi A n xs) (hn : 0 < n) : ∃ g, A = some ⟨g, 0, none⟩ ∧ lo ≤ g ∧ g < hi ∧ g < w.heap.size ∧ (∀ i, w.frozen? ⟨g, i, none⟩ = false) ∧ ∀ (i : Nat) (r : R5), xs[i]? = some r → w.cell? ⟨g, i * 5, none⟩ = some (.int .i64 r.a) ∧ w.cell? ⟨g, i * 5 + 1, none⟩ = some (.int .i64 r.b) ∧ w.cell? ⟨g, i * 5 + 2, none⟩ = some (.int .i64 r.c) ∧ w.cell? ⟨g, i * 5 + 3, none⟩ = some (.int .i64 r.d) ∧ w.cell? ⟨g, i * 5 + 4, none⟩ = some (.int .i64 r.e) := by
  obtain ⟨g, t, cur, e, h1, h2, hg, _, hc⟩ := h.2 hn
  refine ⟨g, e, h1, h2, (Array.getElem?_eq_some_iff.1 hg).1, fun i => by simp [World.frozen?, hg], fun i r hi => ?_⟩
  simp only [cell_of_row w g _ cur t (0, 0) hg]
  exact hc i r hi
theorem OR5.at_ (h : OR5 w lo hi A n xs) {k : Nat} (hk : k < n) : ∃ r, xs[k]? = some r := ⟨xs[k]'(by have := h.1; omega), List.getElem?_eq_getElem _⟩
theorem OR5.wide (h : OR5 w lo hi A n xs) (h1 : lo' ≤ lo) (h2 : hi ≤ hi') : OR5 w lo' hi' A n xs :=
  ⟨h.1, fun hn => by
    obtain ⟨g, t, cur, e, k1, k2, r⟩ := h.2 hn
    exact ⟨g, t, cur, e, by omega, by omega, r⟩⟩
theorem OR5.reads (h : OR5 w lo hi A n xs) : AR5 w A n xs :=
  ⟨h.1, fun hn => by
    obtain ⟨g, e, _, _, h1, _, h3⟩ := h.cells hn
    exact ⟨g, 0, e, h1, h.1, fun i r hi => by simpa using h3 i r hi⟩⟩
theorem BR5.own {g T : Nat} (h : BR5 w g T n xs) (h1 : lo ≤ g) (h2 : g < hi) : OR5 w lo hi (some ⟨g, 0, none⟩) n xs := by
  obtain ⟨cur, hg, hs, hl, hc⟩ := h
  exact ⟨hl, fun _ => ⟨g, T, cur, rfl, h1, h2, hg, by omega, hc⟩⟩
theorem OR5.put0 {g : Nat} (h : OR5 w lo hi (some ⟨g, 0, none⟩) n xs) {k : Nat} {r : R5} (hk : xs[k]? = some r) (x : Int) : OR5 (w.setCell ⟨g, k * 5, none⟩ (.int .i64 x)) lo hi (some ⟨g, 0, none⟩) n (xs.set k { r with a := x }) := by
  have hkl : k < xs.length := (List.getElem?_eq_some_iff.1 hk).1
  refine ⟨by simpa using h.1, fun hn => ?_⟩
  obtain ⟨g', t, cur, e, h1, h2, hg, hs, hc⟩ := h.2 hn
  simp only [Option.some.injEq, Addr.mk.injEq, and_true] at e
  subst e
  have hl := h.1
  refine ⟨g, t, cur.setIfInBounds (k * 5) (.int .i64 x), rfl, h1, h2, by simp [World.setCell, Array.getElem?_modify, hg], by simpa using hs, fun i q hi => ?_⟩
  simp only [Array.getElem?_setIfInBounds]
  rw [List.getElem?_set] at hi
  by_cases e : k = i
  · subst e
    rw [if_pos rfl, if_pos hkl] at hi
    simp only [Option.some.injEq] at hi
    subst hi
    have := hc k r hk
    refine ⟨?_, ?_, ?_, ?_, ?_⟩
    all_goals first | (rw [if_pos (by omega), if_pos (by omega)]; done) | (rw [if_neg (by omega)]; simp [this])
  · rw [if_neg e] at hi
    have := hc i q hi
    refine ⟨?_, ?_, ?_, ?_, ?_⟩
    all_goals (rw [if_neg (by omega)]; simp [this])
theorem OR5.put1 {g : Nat} (h : OR5 w lo hi (some ⟨g, 0, none⟩) n xs) {k : Nat} {r : R5} (hk : xs[k]? = some r) (x : Int) : OR5 (w.setCell ⟨g, k * 5 + 1, none⟩ (.int .i64 x)) lo hi (some ⟨g, 0, none⟩) n (xs.set k { r with b := x }) := by
  have hkl : k < xs.length := (List.getElem?_eq_some_iff.1 hk).1
  refine ⟨by simpa using h.1, fun hn => ?_⟩
  obtain ⟨g', t, cur, e, h1, h2, hg, hs, hc⟩ := h.2 hn
  simp only [Option.some.injEq, Addr.mk.injEq, and_true] at e
  subst e
  have hl := h.1
  refine ⟨g, t, cur.setIfInBounds (k * 5 + 1) (.int .i64 x), rfl, h1, h2, by simp [World.setCell, Array.getElem?_modify, hg], by simpa using hs, fun i q hi => ?_⟩
  simp only [Array.getElem?_setIfInBounds]
  rw [List.getElem?_set] at hi
  by_cases e : k = i
  · subst e
    rw [if_pos rfl, if_pos hkl] at hi
    simp only [Option.some.injEq] at hi
    subst hi
    have := hc k r hk
    refine ⟨?_, ?_, ?_, ?_, ?_⟩
    all_goals first | (rw [if_pos (by omega), if_pos (by omega)]; done) | (rw [if_neg (by omega)]; simp [this])
  · rw [if_neg e] at hi
    have := hc i q hi
    refine ⟨?_, ?_, ?_, ?_, ?_⟩
    all_goals (rw [if_neg (by omega)]; simp [this])
theorem OR5.put2 {g : Nat} (h : OR5 w lo hi (some ⟨g, 0, none⟩) n xs) {k : Nat} {r : R5} (hk : xs[k]? = some r) (x : Int) : OR5 (w.setCell ⟨g, k * 5 + 2, none⟩ (.int .i64 x)) lo hi (some ⟨g, 0, none⟩) n (xs.set k { r with c := x }) := by
  have hkl : k < xs.length := (List.getElem?_eq_some_iff.1 hk).1
  refine ⟨by simpa using h.1, fun hn => ?_⟩
  obtain ⟨g', t, cur, e, h1, h2, hg, hs, hc⟩ := h.2 hn
  simp only [Option.some.injEq, Addr.mk.injEq, and_true] at e
  subst e
  have hl := h.1
  refine ⟨g, t, cur.setIfInBounds (k * 5 + 2) (.int .i64 x), rfl, h1, h2, by simp [World.setCell, Array.getElem?_modify, hg], by simpa using hs, fun i q hi => ?_⟩
  simp only [Array.getElem?_setIfInBounds]
  rw [List.getElem?_set] at hi
  by_cases e : k = i
  · subst e
    rw [if_pos rfl, if_pos hkl] at hi
    simp only [Option.some.injEq] at hi
    subst hi
    have := hc k r hk
    refine ⟨?_, ?_, ?_, ?_, ?_⟩
    all_goals first | (rw [if_pos (by omega), if_pos (by omega)]; done) | (rw [if_neg (by omega)]; simp [this])
  · rw [if_neg e] at hi
    have := hc i q hi
    refine ⟨?_, ?_, ?_, ?_, ?_⟩
    all_goals (rw [if_neg (by omega)]; simp [this])
theorem OR5.put3 {g : Nat} (h : OR5 w lo hi (some ⟨g, 0, none⟩) n xs) {k : Nat} {r : R5} (hk : xs[k]? = some r) (x : Int) : OR5 (w.setCell ⟨g, k * 5 + 3, none⟩ (.int .i64 x)) lo hi (some ⟨g, 0, none⟩) n (xs.set k { r with d := x }) := by
  have hkl : k < xs.length := (List.getElem?_eq_some_iff.1 hk).1
  refine ⟨by simpa using h.1, fun hn => ?_⟩
  obtain ⟨g', t, cur, e, h1, h2, hg, hs, hc⟩ := h.2 hn
  simp only [Option.some.injEq, Addr.mk.injEq, and_true] at e
  subst e
  have hl := h.1
  refine ⟨g, t, cur.setIfInBounds (k * 5 + 3) (.int .i64 x), rfl, h1, h2, by simp [World.setCell, Array.getElem?_modify, hg], by simpa using hs, fun i q hi => ?_⟩
  simp only [Array.getElem?_setIfInBounds]
  rw [List.getElem?_set] at hi
  by_cases e : k = i
  · subst e
    rw [if_pos rfl, if_pos hkl] at hi
    simp only [Option.some.injEq] at hi
    subst hi
    have := hc k r hk
    refine ⟨?_, ?_, ?_, ?_, ?_⟩
    all_goals first | (rw [if_pos (by omega), if_pos (by omega)]; done) | (rw [if_neg (by omega)]; simp [this])
  · rw [if_neg e] at hi
    have := hc i q hi
    refine ⟨?_, ?_, ?_, ?_, ?_⟩
    all_goals (rw [if_neg (by omega)]; simp [this])
theorem OR5.put4 {g : Nat} (h : OR5 w lo hi (some ⟨g, 0, none⟩) n xs) {k : Nat} {r : R5} (hk : xs[k]? = some r) (x : Int) : OR5 (w.setCell ⟨g, k * 5 + 4, none⟩ (.int .i64 x)) lo hi (some ⟨g, 0, none⟩) n (xs.set k { r with e := x }) := by
  have hkl : k < xs.length := (List.getElem?_eq_some_iff.1 hk).1
  refine ⟨by simpa using h.1, fun hn => ?_⟩
  obtain ⟨g', t, cur, e, h1, h2, hg, hs, hc⟩ := h.2 hn
  simp only [Option.some.injEq, Addr.mk.injEq, and_true] at e
  subst e
  have hl := h.1
  refine ⟨g, t, cur.setIfInBounds (k * 5 + 4) (.int .i64 x), rfl, h1, h2, by simp [World.setCell, Array.getElem?_modify, hg], by simpa using hs, fun i q hi => ?_⟩
  simp only [Array.getElem?_setIfInBounds]
  rw [List.getElem?_set] at hi
  by_cases e : k = i
  · subst e
    rw [if_pos rfl, if_pos hkl] at hi
    simp only [Option.some.injEq] at hi
    subst hi
    have := hc k r hk
    refine ⟨?_, ?_, ?_, ?_, ?_⟩
    all_goals first | (rw [if_pos (by omega), if_pos (by omega)]; done) | (rw [if_neg (by omega)]; simp [this])
  · rw [if_neg e] at hi
    have := hc i q hi
    refine ⟨?_, ?_, ?_, ?_, ?_⟩
    all_goals (rw [if_neg (by omega)]; simp [this])
end
def R5.mk_ (k : Int) : R5 := ⟨k, k + 1, k + 1 + 1, k + 1 + 1 + 1, k + 1 + 1 + 1 + 1⟩
def R5.marked (n : Nat) (k : Int) : List R5 := (List.range n).map fun i : Nat => R5.mk_ (k + (i : Int) * 5)
theorem R5.marked_at {n i : Nat} (k : Int) (hi : i < n) : (R5.marked n k)[i]? = some (R5.mk_ (k + (i : Int) * 5)) := by simp [R5.marked, List.getElem?_range hi]
theorem R5.marked_len (n : Nat) (k : Int) : (R5.marked n k).length = n := by simp [R5.marked]

theorem OR5.store {w : World} {g lo hi n : Nat} {xs : List R5} (h : OR5 w lo hi (some ⟨g, 0, none⟩) n xs) {k : Nat} {q : R5} (hk : xs[k]? = some q) (r : R5) : OR5 (((((w.setCell ⟨g, k * 5, none⟩ (.int .i64 r.a)).setCell ⟨g, k * 5 + 1, none⟩ (.int .i64 r.b)).setCell ⟨g, k * 5 + 2, none⟩ (.int .i64 r.c)).setCell ⟨g, k * 5 + 3, none⟩ (.int .i64 r.d)).setCell ⟨g, k * 5 + 4, none⟩ (.int .i64 r.e)) lo hi (some ⟨g, 0, none⟩) n (xs.set k r) := by
  have hkl : k < xs.length := (List.getElem?_eq_some_iff.1 hk).1
  have p0 := h.put0 (k := k) (r := q) hk r.a
  have p1 := p0.put1 (k := k) (r := { q with a := r.a }) (by simp [hkl]) r.b
  have p2 := p1.put2 (k := k) (r := { { q with a := r.a } with b := r.b }) (by simp [hkl]) r.c
  have p3 := p2.put3 (k := k) (r := { { { q with a := r.a } with b := r.b } with c := r.c }) (by simp [hkl]) r.d
  have p4 := p3.put4 (k := k) (r := { { { { q with a := r.a } with b := r.b } with c := r.c } with d := r.d }) (by simp [hkl]) r.e
  simpa only [List.set_set] using p4
end Go.Proofs.YtnibhaabhjgmgaaDoor
