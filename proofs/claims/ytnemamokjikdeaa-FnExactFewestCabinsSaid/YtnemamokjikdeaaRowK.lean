/- Rows of structs of a call's own in the words of the library's row kit, and back. No program in sight. -/
import Derived.Test.YtnemamokjikdeaaClone
import Derived.Shelf.GgSortFunc.InsertionK
namespace Go.Proofs.Ytnemamokjikdeaa
open Go Go.RowKit Go.Sort
theorem heap_mapBlock {w : World} {g : Nat} {f : Array Value → Array Value} {cur : Array Value} {t : TypeId} {z : Nat × Nat} (h : w.heap[g]? = some (.cells cur t z)) : (mapBlock w g f).heap[g]? = some (.cells (f cur) t z) := by
  simp [mapBlock, Array.getElem?_modify, h, onCells]
theorem heap_mapBlock_ne (w : World) {g k : Nat} (f : Array Value → Array Value) (h : g ≠ k) : (mapBlock w g f).heap[k]? = w.heap[k]? := by
  simp [mapBlock, Array.getElem?_modify, h]
section
variable {α : Type} [Inhabited α] {enc : α → List Value} {k : Nat} {w : World} {g off m : Nat} {d : Array α} {os : Array Obj}
theorem sorted_block {cur : Array Value} {t : TypeId} (h : w.heap[g]? = some (.cells cur t (0, 0))) : ∃ cur', (sortWorldK enc k w g off m d os).heap[g]? = some (.cells cur' t (0, 0)) := by
  have h1 : (putRowK enc k (Sort.ahead w m) g off d).heap[g]? = some (.cells (putCells id off (flatK enc k d) cur) t (0, 0)) := heap_mapBlock (w := Sort.ahead w m) h
  refine ⟨putCells id off (flatK enc k d) cur, ?_⟩
  have hl := (Array.getElem?_eq_some_iff.1 h1).1
  show ((putRowK enc k (Sort.ahead w m) g off d).heap ++ os)[g]? = _
  rw [Array.getElem?_append_left hl]
  exact h1
theorem sorted_tch (enc : α → List Value) (k : Nat) (w : World) (g off m : Nat) (d : Array α) (os : Array Obj) : Tch w (sortWorldK enc k w g off m d os) g (g + 1) := by
  have hs : (putRowK enc k (Sort.ahead w m) g off d).heap.size = w.heap.size := by unfold putRowK; rw [size_putRow]; rfl
  refine ⟨rfl, rfl, rfl, by show _ ≤ ((putRowK enc k (Sort.ahead w m) g off d).heap ++ os).size; rw [Array.size_append, hs]; omega, fun j hj hd => ?_⟩
  show ((putRowK enc k (Sort.ahead w m) g off d).heap ++ os)[j]? = _
  rw [Array.getElem?_append_left (by rw [hs]; exact hj)]
  exact heap_mapBlock_ne (Sort.ahead w m) _ (by omega)
theorem sorted_none : sortWorldK enc k w g off m d #[] = putRowK enc k (Sort.ahead w m) g off d := grow_empty _
end
instance : Inhabited R3 := ⟨R3.zero⟩
theorem OR3.holds {w : World} {lo hi g n : Nat} {xs : List R3} (h : OR3 w lo hi (some ⟨g, 0, none⟩) n xs) : HoldsK R3.cs 3 w g 0 xs.toArray := by
  intro j hj
  have hj' : j < xs.length * 3 := by simpa using hj
  have h0 : 0 < n := by have := h.1; omega
  obtain ⟨g', e, _, _, _, fz, hc⟩ := h.cells h0
  simp only [Option.some.injEq, Addr.mk.injEq, and_true] at e
  subst e
  refine ⟨?_, fz _⟩
  obtain ⟨i, c, rfl, hcn⟩ : ∃ i c, j = i * 3 + c ∧ c < 3 := ⟨j / 3, j % 3, by omega, by omega⟩
  have hi : i < xs.length := by omega
  obtain ⟨c0, c1, c2⟩ := hc i _ (List.getElem?_eq_getElem hi)
  rw [get_flatK _ _ _ _ (by simpa using hj'), show (i * 3 + c) / 3 = i by omega, show (i * 3 + c) % 3 = c by omega, Nat.zero_add, getElem!_pos xs.toArray i (by simpa using hi)]
  match c, hcn with
  | 0, _ => exact c0
  | 1, _ => exact c1
  | 2, _ => exact c2
theorem OR3.of_holds {w : World} {g n : Nat} {xs : List R3} {cur : Array Value} {t : TypeId} (hb : w.heap[g]? = some (.cells cur t (0, 0))) (h : HoldsK R3.cs 3 w g 0 xs.toArray) (hl : xs.length = n) : OR3 w g (g + 1) (some ⟨g, 0, none⟩) n xs := by
  have hcell : ∀ i c, i < xs.length → c < 3 → cur[i * 3 + c]? = some (R3.cs xs[i]!)[c]! := fun i c hi hc => by
    have := (h.cell (i := i) (c := c) (by simpa using hi) hc).1
    rw [Nat.zero_add, cell_of_row w g _ cur t (0, 0) hb] at this
    rw [this]
    simp
  refine ⟨hl, fun hn => ⟨g, t, cur, rfl, Nat.le_refl _, Nat.lt_succ_self _, hb, ?_, fun i r hi => ?_⟩⟩
  · have := (Array.getElem?_eq_some_iff.1 (hcell (n - 1) 2 (by omega) (by omega))).1
    omega
  · obtain ⟨hil, hie⟩ := List.getElem?_eq_some_iff.1 hi
    have hg : xs[i]! = r := by rw [getElem!_pos xs i hil]; exact hie
    have hk := hcell i
    rw [hg] at hk
    exact ⟨hk 0 hil (by omega), hk 1 hil (by omega), hk 2 hil (by omega)⟩
theorem OR3.sorted {w : World} {lo hi g n m : Nat} {xs ys : List R3} {os : Array Obj} (h : OR3 w lo hi (some ⟨g, 0, none⟩) n xs) (h0 : 0 < n) (hl : ys.length = n) : OR3 (sortWorldK R3.cs 3 w g 0 m ys.toArray os) g (g + 1) (some ⟨g, 0, none⟩) n ys := by
  obtain ⟨g', t, cur, e, _, _, hg, _⟩ := h.2 h0
  simp only [Option.some.injEq, Addr.mk.injEq, and_true] at e
  subst e
  obtain ⟨cur', hb⟩ := sorted_block (enc := R3.cs) (k := 3) (off := 0) (m := m) (d := ys.toArray) (os := os) hg
  refine OR3.of_holds hb ?_ hl
  have hh := h.holds
  have hlt : g < (putRowK R3.cs 3 (Sort.ahead w m) g 0 ys.toArray).heap.size := by
    unfold putRowK
    rw [size_putRow]
    exact (Array.getElem?_eq_some_iff.1 hg).1
  exact holdsK_grow _ _ _ _ _ _ _ hlt (holdsK_putRowK _ _ _ _ _ _ _ (holdsK_ahead _ _ _ _ _ _ _ hh) (by simp [hl, h.1]))
theorem OR3.lt_of {w : World} {lo hi g n : Nat} {xs : List R3} (h : OR3 w lo hi (some ⟨g, 0, none⟩) n xs) (h0 : 0 < n) : g < w.heap.size := by
  obtain ⟨g', e, _, _, h1, _⟩ := h.cells h0
  simp only [Option.some.injEq, Addr.mk.injEq, and_true] at e
  subst e
  exact h1
theorem R3.cs_one (r : R3) : ∀ v ∈ r.cs, v.oneCell' = true := by
  intro v hv
  simp only [R3.cs, List.mem_cons, List.not_mem_nil, or_false] at hv
  rcases hv with rfl | rfl | rfl <;> rfl
instance : Inhabited Sup := ⟨Sup.zero⟩
theorem OSup.holds {w : World} {lo hi g n : Nat} {xs : List Sup} (h : OSup w lo hi (some ⟨g, 0, none⟩) n xs) : HoldsK Sup.cs 3 w g 0 xs.toArray := by
  intro j hj
  have hj' : j < xs.length * 3 := by simpa using hj
  have h0 : 0 < n := by have := h.1; omega
  obtain ⟨g', e, _, _, _, fz, hc⟩ := h.cells h0
  simp only [Option.some.injEq, Addr.mk.injEq, and_true] at e
  subst e
  refine ⟨?_, fz _⟩
  obtain ⟨i, c, rfl, hcn⟩ : ∃ i c, j = i * 3 + c ∧ c < 3 := ⟨j / 3, j % 3, by omega, by omega⟩
  have hi : i < xs.length := by omega
  obtain ⟨c0, c1, c2⟩ := hc i _ (List.getElem?_eq_getElem hi)
  rw [get_flatK _ _ _ _ (by simpa using hj'), show (i * 3 + c) / 3 = i by omega, show (i * 3 + c) % 3 = c by omega, Nat.zero_add, getElem!_pos xs.toArray i (by simpa using hi)]
  match c, hcn with
  | 0, _ => exact c0
  | 1, _ => exact c1
  | 2, _ => exact c2
theorem OSup.of_holds {w : World} {g n : Nat} {xs : List Sup} {cur : Array Value} {t : TypeId} (hb : w.heap[g]? = some (.cells cur t (0, 0))) (h : HoldsK Sup.cs 3 w g 0 xs.toArray) (hl : xs.length = n) : OSup w g (g + 1) (some ⟨g, 0, none⟩) n xs := by
  have hcell : ∀ i c, i < xs.length → c < 3 → cur[i * 3 + c]? = some (Sup.cs xs[i]!)[c]! := fun i c hi hc => by
    have := (h.cell (i := i) (c := c) (by simpa using hi) hc).1
    rw [Nat.zero_add, cell_of_row w g _ cur t (0, 0) hb] at this
    rw [this]
    simp
  refine ⟨hl, fun hn => ⟨g, t, cur, rfl, Nat.le_refl _, Nat.lt_succ_self _, hb, ?_, fun i r hi => ?_⟩⟩
  · have := (Array.getElem?_eq_some_iff.1 (hcell (n - 1) 2 (by omega) (by omega))).1
    omega
  · obtain ⟨hil, hie⟩ := List.getElem?_eq_some_iff.1 hi
    have hg : xs[i]! = r := by rw [getElem!_pos xs i hil]; exact hie
    have hk := hcell i
    rw [hg] at hk
    exact ⟨hk 0 hil (by omega), hk 1 hil (by omega), hk 2 hil (by omega)⟩
theorem OSup.sorted {w : World} {lo hi g n m : Nat} {xs ys : List Sup} {os : Array Obj} (h : OSup w lo hi (some ⟨g, 0, none⟩) n xs) (h0 : 0 < n) (hl : ys.length = n) : OSup (sortWorldK Sup.cs 3 w g 0 m ys.toArray os) g (g + 1) (some ⟨g, 0, none⟩) n ys := by
  obtain ⟨g', t, cur, e, _, _, hg, _⟩ := h.2 h0
  simp only [Option.some.injEq, Addr.mk.injEq, and_true] at e
  subst e
  obtain ⟨cur', hb⟩ := sorted_block (enc := Sup.cs) (k := 3) (off := 0) (m := m) (d := ys.toArray) (os := os) hg
  refine OSup.of_holds hb ?_ hl
  have hh := h.holds
  have hlt : g < (putRowK Sup.cs 3 (Sort.ahead w m) g 0 ys.toArray).heap.size := by
    unfold putRowK
    rw [size_putRow]
    exact (Array.getElem?_eq_some_iff.1 hg).1
  exact holdsK_grow _ _ _ _ _ _ _ hlt (holdsK_putRowK _ _ _ _ _ _ _ (holdsK_ahead _ _ _ _ _ _ _ hh) (by simp [hl, h.1]))
theorem OSup.lt_of {w : World} {lo hi g n : Nat} {xs : List Sup} (h : OSup w lo hi (some ⟨g, 0, none⟩) n xs) (h0 : 0 < n) : g < w.heap.size := by
  obtain ⟨g', e, _, _, h1, _⟩ := h.cells h0
  simp only [Option.some.injEq, Addr.mk.injEq, and_true] at e
  subst e
  exact h1
theorem Sup.cs_one (r : Sup) : ∀ v ∈ r.cs, v.oneCell' = true := by
  intro v hv
  simp only [Sup.cs, List.mem_cons, List.not_mem_nil, or_false] at hv
  rcases hv with rfl | rfl | rfl <;> rfl
instance : Inhabited R5 := ⟨R5.zero⟩
theorem OR5.holds {w : World} {lo hi g n : Nat} {xs : List R5} (h : OR5 w lo hi (some ⟨g, 0, none⟩) n xs) : HoldsK R5.cs 5 w g 0 xs.toArray := by
  intro j hj
  have hj' : j < xs.length * 5 := by simpa using hj
  have h0 : 0 < n := by have := h.1; omega
  obtain ⟨g', e, _, _, _, fz, hc⟩ := h.cells h0
  simp only [Option.some.injEq, Addr.mk.injEq, and_true] at e
  subst e
  refine ⟨?_, fz _⟩
  obtain ⟨i, c, rfl, hcn⟩ : ∃ i c, j = i * 5 + c ∧ c < 5 := ⟨j / 5, j % 5, by omega, by omega⟩
  have hi : i < xs.length := by omega
  obtain ⟨c0, c1, c2, c3, c4⟩ := hc i _ (List.getElem?_eq_getElem hi)
  rw [get_flatK _ _ _ _ (by simpa using hj'), show (i * 5 + c) / 5 = i by omega, show (i * 5 + c) % 5 = c by omega, Nat.zero_add, getElem!_pos xs.toArray i (by simpa using hi)]
  match c, hcn with
  | 0, _ => exact c0
  | 1, _ => exact c1
  | 2, _ => exact c2
  | 3, _ => exact c3
  | 4, _ => exact c4
theorem OR5.of_holds {w : World} {g n : Nat} {xs : List R5} {cur : Array Value} {t : TypeId} (hb : w.heap[g]? = some (.cells cur t (0, 0))) (h : HoldsK R5.cs 5 w g 0 xs.toArray) (hl : xs.length = n) : OR5 w g (g + 1) (some ⟨g, 0, none⟩) n xs := by
  have hcell : ∀ i c, i < xs.length → c < 5 → cur[i * 5 + c]? = some (R5.cs xs[i]!)[c]! := fun i c hi hc => by
    have := (h.cell (i := i) (c := c) (by simpa using hi) hc).1
    rw [Nat.zero_add, cell_of_row w g _ cur t (0, 0) hb] at this
    rw [this]
    simp
  refine ⟨hl, fun hn => ⟨g, t, cur, rfl, Nat.le_refl _, Nat.lt_succ_self _, hb, ?_, fun i r hi => ?_⟩⟩
  · have := (Array.getElem?_eq_some_iff.1 (hcell (n - 1) 4 (by omega) (by omega))).1
    omega
  · obtain ⟨hil, hie⟩ := List.getElem?_eq_some_iff.1 hi
    have hg : xs[i]! = r := by rw [getElem!_pos xs i hil]; exact hie
    have hk := hcell i
    rw [hg] at hk
    exact ⟨hk 0 hil (by omega), hk 1 hil (by omega), hk 2 hil (by omega), hk 3 hil (by omega), hk 4 hil (by omega)⟩
theorem OR5.sorted {w : World} {lo hi g n m : Nat} {xs ys : List R5} {os : Array Obj} (h : OR5 w lo hi (some ⟨g, 0, none⟩) n xs) (h0 : 0 < n) (hl : ys.length = n) : OR5 (sortWorldK R5.cs 5 w g 0 m ys.toArray os) g (g + 1) (some ⟨g, 0, none⟩) n ys := by
  obtain ⟨g', t, cur, e, _, _, hg, _⟩ := h.2 h0
  simp only [Option.some.injEq, Addr.mk.injEq, and_true] at e
  subst e
  obtain ⟨cur', hb⟩ := sorted_block (enc := R5.cs) (k := 5) (off := 0) (m := m) (d := ys.toArray) (os := os) hg
  refine OR5.of_holds hb ?_ hl
  have hh := h.holds
  have hlt : g < (putRowK R5.cs 5 (Sort.ahead w m) g 0 ys.toArray).heap.size := by
    unfold putRowK
    rw [size_putRow]
    exact (Array.getElem?_eq_some_iff.1 hg).1
  exact holdsK_grow _ _ _ _ _ _ _ hlt (holdsK_putRowK _ _ _ _ _ _ _ (holdsK_ahead _ _ _ _ _ _ _ hh) (by simp [hl, h.1]))
theorem OR5.lt_of {w : World} {lo hi g n : Nat} {xs : List R5} (h : OR5 w lo hi (some ⟨g, 0, none⟩) n xs) (h0 : 0 < n) : g < w.heap.size := by
  obtain ⟨g', e, _, _, h1, _⟩ := h.cells h0
  simp only [Option.some.injEq, Addr.mk.injEq, and_true] at e
  subst e
  exact h1
theorem R5.cs_one (r : R5) : ∀ v ∈ r.cs, v.oneCell' = true := by
  intro v hv
  simp only [R5.cs, List.mem_cons, List.not_mem_nil, or_false] at hv
  rcases hv with rfl | rfl | rfl | rfl | rfl <;> rfl
end Go.Proofs.Ytnemamokjikdeaa
