/- Slices of structs whose fields are integers and bools: what it says that they read as a list. No program in sight. -/
import Derived.Test.YtnibhaabhjgmgaaDoorLib
namespace Go.Proofs.YtnibhaabhjgmgaaDoor
open Go.RowKit
theorem run_make_rowN {P : Program} (t e : TypeId) (i : TypeInfo) (z : Value) (ht : P.underlying t = some (.slice e)) (hi : P.info? e = some i) (hz : i.zero = some z)
    (kl kc : IntKind) (n c : Nat) (hnc : n ≤ c) (hbytes : i.bytes * c ≤ 281474976710656) (h63 : c ≤ 9223372036854775807) (w : World) :
    (Instr.makeSlice t (.int kl (n : Int)) (.int kc (c : Int))).run P w = .ok (.slice (some ⟨w.heap.size, 0, none⟩) n c) (w.alloc (.cells (madeCells z.cells (c * i.size)) e)) := by
  have hb : (i.bytes : Int) * (c : Int) ≤ 281474976710656 := by
    have h : ((i.bytes * c : Nat) : Int) ≤ 281474976710656 := by omega
    rwa [Int.natCast_mul] at h
  have hr := run_make (P := P) w t e i z ht hi hz kl kc n c (by omega) (by omega) hb (by omega)
  simp only [Int.toNat_natCast] at hr
  exact hr
def cellInt (w : World) (p : Addr) : Int := match w.cell? p with | some (.int _ x) => x | _ => 0
def cellBool (w : World) (p : Addr) : Bool := match w.cell? p with | some (.bool x) => x | _ => false

def R2.cs (r : R2) : List Value := [.int .i64 r.a, .int .i64 r.b]
/-- The cells from (g, off) on hold the list. -/
def SR2 (w : World) (g off n : Nat) (xs : List R2) : Prop := g < w.heap.size ∧ xs.length = n ∧ ∀ (i : Nat) (r : R2), xs[i]? = some r → w.cell? ⟨g, off + i * 2, none⟩ = some (.int .i64 r.a) ∧ w.cell? ⟨g, off + i * 2 + 1, none⟩ = some (.int .i64 r.b)
/-- A slice's value reads as the list (nothing is asked of the address of an empty one). -/
def AR2 (w : World) (A : Option Addr) (n : Nat) (xs : List R2) : Prop := xs.length = n ∧ (0 < n → ∃ g off, A = some ⟨g, off, none⟩ ∧ SR2 w g off n xs)
section
variable {w w' : World} {g off n : Nat} {xs : List R2}
theorem SR2.keep (h : SR2 w g off n xs) (hb : Below (g + 1) w w') : SR2 w' g off n xs := by
  refine ⟨Nat.lt_of_lt_of_le h.1 hb.size, h.2.1, fun i r hi => ?_⟩
  have := h.2.2 i r hi
  simp only [hb.cell (p := ⟨g, _, none⟩) (Nat.lt_succ_self g)]
  exact this
theorem SR2.later (h : SR2 w g off n xs) (x : Lat w) : SR2 (later w x) g off n xs := h.keep ((later_below w x).mono h.1)
theorem SR2.alloc (h : SR2 w g off n xs) (o : Obj) : SR2 (w.alloc o) g off n xs := h.keep ((Below.refl _ _).alloc h.1 o)
theorem SR2.below {B : Nat} (h : SR2 w g off n xs) (hg : g < B) (hb : Below B w w') : SR2 w' g off n xs := h.keep (hb.mono hg)
theorem SR2.set_ (h : SR2 w g off n xs) {p : Addr} (hp : p.block ≠ g) (u : Value) : SR2 (w.setCell p u) g off n xs := by
  refine ⟨by simpa using h.1, h.2.1, fun i r hi => ?_⟩
  have := h.2.2 i r hi
  have e : ∀ k, (w.setCell p u).cell? ⟨g, k, none⟩ = w.cell? ⟨g, k, none⟩ := fun k => World.cell?_setCell_other w p _ u (fun e => hp (by rw [e]))
  simp only [e]
  exact this
theorem SR2.at_ (h : SR2 w g off n xs) {k : Nat} (hk : k < n) : ∃ r, xs[k]? = some r := ⟨xs[k]'(by have := h.2.1; omega), List.getElem?_eq_getElem _⟩
theorem AR2.later {A : Option Addr} (h : AR2 w A n xs) (x : Lat w) : AR2 (later w x) A n xs :=
  ⟨h.1, fun hn => by obtain ⟨g, off, e, hs⟩ := h.2 hn; exact ⟨g, off, e, hs.later x⟩⟩
theorem AR2.below2 {A : Option Addr} (h : AR2 w A n xs) (hb : Below w.heap.size w w') : AR2 w' A n xs :=
  ⟨h.1, fun hn => by obtain ⟨g, off, e, hs⟩ := h.2 hn; exact ⟨g, off, e, hs.below hs.1 hb⟩⟩
theorem AR2.of (h : SR2 w g off n xs) : AR2 w (some ⟨g, off, none⟩) n xs := ⟨h.2.1, fun _ => ⟨g, off, rfl, h⟩⟩
end

def R3.cs (r : R3) : List Value := [.int .i64 r.a, .int .i64 r.b, .int .i64 r.c]
/-- The cells from (g, off) on hold the list. -/
def SR3 (w : World) (g off n : Nat) (xs : List R3) : Prop := g < w.heap.size ∧ xs.length = n ∧ ∀ (i : Nat) (r : R3), xs[i]? = some r → w.cell? ⟨g, off + i * 3, none⟩ = some (.int .i64 r.a) ∧ w.cell? ⟨g, off + i * 3 + 1, none⟩ = some (.int .i64 r.b) ∧ w.cell? ⟨g, off + i * 3 + 2, none⟩ = some (.int .i64 r.c)
/-- A slice's value reads as the list (nothing is asked of the address of an empty one). -/
def AR3 (w : World) (A : Option Addr) (n : Nat) (xs : List R3) : Prop := xs.length = n ∧ (0 < n → ∃ g off, A = some ⟨g, off, none⟩ ∧ SR3 w g off n xs)
section
variable {w w' : World} {g off n : Nat} {xs : List R3}
theorem SR3.keep (h : SR3 w g off n xs) (hb : Below (g + 1) w w') : SR3 w' g off n xs := by
  refine ⟨Nat.lt_of_lt_of_le h.1 hb.size, h.2.1, fun i r hi => ?_⟩
  have := h.2.2 i r hi
  simp only [hb.cell (p := ⟨g, _, none⟩) (Nat.lt_succ_self g)]
  exact this
theorem SR3.later (h : SR3 w g off n xs) (x : Lat w) : SR3 (later w x) g off n xs := h.keep ((later_below w x).mono h.1)
theorem SR3.alloc (h : SR3 w g off n xs) (o : Obj) : SR3 (w.alloc o) g off n xs := h.keep ((Below.refl _ _).alloc h.1 o)
theorem SR3.below {B : Nat} (h : SR3 w g off n xs) (hg : g < B) (hb : Below B w w') : SR3 w' g off n xs := h.keep (hb.mono hg)
theorem SR3.set_ (h : SR3 w g off n xs) {p : Addr} (hp : p.block ≠ g) (u : Value) : SR3 (w.setCell p u) g off n xs := by
  refine ⟨by simpa using h.1, h.2.1, fun i r hi => ?_⟩
  have := h.2.2 i r hi
  have e : ∀ k, (w.setCell p u).cell? ⟨g, k, none⟩ = w.cell? ⟨g, k, none⟩ := fun k => World.cell?_setCell_other w p _ u (fun e => hp (by rw [e]))
  simp only [e]
  exact this
theorem SR3.at_ (h : SR3 w g off n xs) {k : Nat} (hk : k < n) : ∃ r, xs[k]? = some r := ⟨xs[k]'(by have := h.2.1; omega), List.getElem?_eq_getElem _⟩
theorem AR3.later {A : Option Addr} (h : AR3 w A n xs) (x : Lat w) : AR3 (later w x) A n xs :=
  ⟨h.1, fun hn => by obtain ⟨g, off, e, hs⟩ := h.2 hn; exact ⟨g, off, e, hs.later x⟩⟩
theorem AR3.below2 {A : Option Addr} (h : AR3 w A n xs) (hb : Below w.heap.size w w') : AR3 w' A n xs :=
  ⟨h.1, fun hn => by obtain ⟨g, off, e, hs⟩ := h.2 hn; exact ⟨g, off, e, hs.below hs.1 hb⟩⟩
theorem AR3.of (h : SR3 w g off n xs) : AR3 w (some ⟨g, off, none⟩) n xs := ⟨h.2.1, fun _ => ⟨g, off, rfl, h⟩⟩
end

def Sup.cs (r : Sup) : List Value := [.int .i64 r.at_, .int .i64 r.h, .bool r.st]
/-- The cells from (g, off) on hold the list. -/
def SSup (w : World) (g off n : Nat) (xs : List Sup) : Prop := g < w.heap.size ∧ xs.length = n ∧ ∀ (i : Nat) (r : Sup), xs[i]? = some r → w.cell? ⟨g, off + i * 3, none⟩ = some (.int .i64 r.at_) ∧ w.cell? ⟨g, off + i * 3 + 1, none⟩ = some (.int .i64 r.h) ∧ w.cell? ⟨g, off + i * 3 + 2, none⟩ = some (.bool r.st)
/-- A slice's value reads as the list (nothing is asked of the address of an empty one). -/
def ASup (w : World) (A : Option Addr) (n : Nat) (xs : List Sup) : Prop := xs.length = n ∧ (0 < n → ∃ g off, A = some ⟨g, off, none⟩ ∧ SSup w g off n xs)
section
variable {w w' : World} {g off n : Nat} {xs : List Sup}
theorem SSup.keep (h : SSup w g off n xs) (hb : Below (g + 1) w w') : SSup w' g off n xs := by
  refine ⟨Nat.lt_of_lt_of_le h.1 hb.size, h.2.1, fun i r hi => ?_⟩
  have := h.2.2 i r hi
  simp only [hb.cell (p := ⟨g, _, none⟩) (Nat.lt_succ_self g)]
  exact this
theorem SSup.later (h : SSup w g off n xs) (x : Lat w) : SSup (later w x) g off n xs := h.keep ((later_below w x).mono h.1)
theorem SSup.alloc (h : SSup w g off n xs) (o : Obj) : SSup (w.alloc o) g off n xs := h.keep ((Below.refl _ _).alloc h.1 o)
theorem SSup.below {B : Nat} (h : SSup w g off n xs) (hg : g < B) (hb : Below B w w') : SSup w' g off n xs := h.keep (hb.mono hg)
theorem SSup.set_ (h : SSup w g off n xs) {p : Addr} (hp : p.block ≠ g) (u : Value) : SSup (w.setCell p u) g off n xs := by
  refine ⟨by simpa using h.1, h.2.1, fun i r hi => ?_⟩
  have := h.2.2 i r hi
  have e : ∀ k, (w.setCell p u).cell? ⟨g, k, none⟩ = w.cell? ⟨g, k, none⟩ := fun k => World.cell?_setCell_other w p _ u (fun e => hp (by rw [e]))
  simp only [e]
  exact this
theorem SSup.at_ (h : SSup w g off n xs) {k : Nat} (hk : k < n) : ∃ r, xs[k]? = some r := ⟨xs[k]'(by have := h.2.1; omega), List.getElem?_eq_getElem _⟩
theorem ASup.later {A : Option Addr} (h : ASup w A n xs) (x : Lat w) : ASup (later w x) A n xs :=
  ⟨h.1, fun hn => by obtain ⟨g, off, e, hs⟩ := h.2 hn; exact ⟨g, off, e, hs.later x⟩⟩
theorem ASup.below2 {A : Option Addr} (h : ASup w A n xs) (hb : Below w.heap.size w w') : ASup w' A n xs :=
  ⟨h.1, fun hn => by obtain ⟨g, off, e, hs⟩ := h.2 hn; exact ⟨g, off, e, hs.below hs.1 hb⟩⟩
theorem ASup.of (h : SSup w g off n xs) : ASup w (some ⟨g, off, none⟩) n xs := ⟨h.2.1, fun _ => ⟨g, off, rfl, h⟩⟩
end

def R5.cs (r : R5) : List Value := [.int .i64 r.a, .int .i64 r.b, .int .i64 r.c, .int .i64 r.d, .int .i64 r.e]
/-- The cells from (g, off) on hold the list. -/
def SR5 (w : World) (g off n : Nat) (xs : List R5) : Prop := g < w.heap.size ∧ xs.length = n ∧ ∀ (i : Nat) (r : R5), xs[i]? = some r → w.cell? ⟨g, off + i * 5, none⟩ = some (.int .i64 r.a) ∧ w.cell? ⟨g, off + i * 5 + 1, none⟩ = some (.int .i64 r.b) ∧ w.cell? ⟨g, off + i * 5 + 2, none⟩ = some (.int .i64 r.c) ∧ w.cell? ⟨g, off + i * 5 + 3, none⟩ = some (.int .i64 r.d) ∧ w.cell? ⟨g, off + i * 5 + 4, none⟩ = some (.int .i64 r.e)
/-- A slice's value reads as the list (nothing is asked of the address of an empty one). -/
def AR5 (w : World) (A : Option Addr) (n : Nat) (xs : List R5) : Prop := xs.length = n ∧ (0 < n → ∃ g off, A = some ⟨g, off, none⟩ ∧ SR5 w g off n xs)
section
variable {w w' : World} {g off n : Nat} {xs : List R5}
theorem SR5.keep (h : SR5 w g off n xs) (hb : Below (g + 1) w w') : SR5 w' g off n xs := by
  refine ⟨Nat.lt_of_lt_of_le h.1 hb.size, h.2.1, fun i r hi => ?_⟩
  have := h.2.2 i r hi
  simp only [hb.cell (p := ⟨g, _, none⟩) (Nat.lt_succ_self g)]
  exact this
theorem SR5.later (h : SR5 w g off n xs) (x : Lat w) : SR5 (later w x) g off n xs := h.keep ((later_below w x).mono h.1)
theorem SR5.alloc (h : SR5 w g off n xs) (o : Obj) : SR5 (w.alloc o) g off n xs := h.keep ((Below.refl _ _).alloc h.1 o)
theorem SR5.below {B : Nat} (h : SR5 w g off n xs) (hg : g < B) (hb : Below B w w') : SR5 w' g off n xs := h.keep (hb.mono hg)
theorem SR5.set_ (h : SR5 w g off n xs) {p : Addr} (hp : p.block ≠ g) (u : Value) : SR5 (w.setCell p u) g off n xs := by
  refine ⟨by simpa using h.1, h.2.1, fun i r hi => ?_⟩
  have := h.2.2 i r hi
  have e : ∀ k, (w.setCell p u).cell? ⟨g, k, none⟩ = w.cell? ⟨g, k, none⟩ := fun k => World.cell?_setCell_other w p _ u (fun e => hp (by rw [e]))
  simp only [e]
  exact this
theorem SR5.at_ (h : SR5 w g off n xs) {k : Nat} (hk : k < n) : ∃ r, xs[k]? = some r := ⟨xs[k]'(by have := h.2.1; omega), List.getElem?_eq_getElem _⟩
theorem AR5.later {A : Option Addr} (h : AR5 w A n xs) (x : Lat w) : AR5 (later w x) A n xs :=
  ⟨h.1, fun hn => by obtain ⟨g, off, e, hs⟩ := h.2 hn; exact ⟨g, off, e, hs.later x⟩⟩
theorem AR5.below2 {A : Option Addr} (h : AR5 w A n xs) (hb : Below w.heap.size w w') : AR5 w' A n xs :=
  ⟨h.1, fun hn => by obtain ⟨g, off, e, hs⟩ := h.2 hn; exact ⟨g, off, e, hs.below hs.1 hb⟩⟩
theorem AR5.of (h : SR5 w g off n xs) : AR5 w (some ⟨g, off, none⟩) n xs := ⟨h.2.1, fun _ => ⟨g, off, rfl, h⟩⟩
end

/-- Block g is the list's, whole, and may be written. -/
def BR2 (w : World) (g T n : Nat) (xs : List R2) : Prop := ∃ cur : Array Value, w.heap[g]? = some (.cells cur T (0, 0)) ∧ cur.size = n * 2 ∧ xs.length = n ∧ ∀ (i : Nat) (r : R2), xs[i]? = some r → cur[i * 2]? = some (.int .i64 r.a) ∧ cur[i * 2 + 1]? = some (.int .i64 r.b)
section
variable {w w' : World} {g T n : Nat} {xs : List R2}
theorem BR2.lt (h : BR2 w g T n xs) : g < w.heap.size := by
  obtain ⟨cur, hg, _⟩ := h
  exact (Array.getElem?_eq_some_iff.1 hg).1
theorem BR2.reads (h : BR2 w g T n xs) : SR2 w g 0 n xs := by
  have hlt := h.lt
  obtain ⟨cur, hg, hs, hl, hc⟩ := h
  refine ⟨hlt, hl, fun i r hi => ?_⟩
  have := hc i r hi
  simp only [Nat.zero_add, cell_of_row w g _ cur T (0, 0) hg]
  exact this
theorem BR2.block (h : BR2 w g T n xs) (hb : w'.heap[g]? = w.heap[g]?) : BR2 w' g T n xs := by
  obtain ⟨cur, hg, r⟩ := h
  exact ⟨cur, hb.trans hg, r⟩
theorem BR2.below {B : Nat} (h : BR2 w g T n xs) (hg : g < B) (hb : Below B w w') : BR2 w' g T n xs := h.block (hb.block g hg)
theorem BR2.later (h : BR2 w g T n xs) (x : Lat w) : BR2 (later w x) g T n xs := h.below h.lt (later_below w x)
theorem BR2.alloc (h : BR2 w g T n xs) (o : Obj) : BR2 (w.alloc o) g T n xs := h.block (Below.heap_alloc w o g h.lt)
theorem BR2.below2 (h : BR2 w g T n xs) (hb : Below w.heap.size w w') : BR2 w' g T n xs := h.below h.lt hb
theorem BR2.far (h : BR2 w g T n xs) {p : Addr} (hp : g ≠ p.block) (u : Value) : BR2 (w.setCell p u) g T n xs := h.block (Below.heap_setCell w p u g hp)
theorem BR2.free (h : BR2 w g T n xs) (i : Nat) : w.frozen? ⟨g, i, none⟩ = false := by
  obtain ⟨cur, hg, _⟩ := h
  simp [World.frozen?, hg]
theorem BR2.len (h : BR2 w g T n xs) : xs.length = n := by
  obtain ⟨_, _, _, hl, _⟩ := h
  exact hl
theorem BR2.put0 (h : BR2 w g T n xs) {k : Nat} {r : R2} (hk : xs[k]? = some r) (x : Int) : BR2 (w.setCell ⟨g, k * 2, none⟩ (.int .i64 x)) g T n (xs.set k { r with a := x }) := by
  obtain ⟨cur, hg, hs, hl, hc⟩ := h
  have hkl : k < xs.length := (List.getElem?_eq_some_iff.1 hk).1
  refine ⟨cur.setIfInBounds (k * 2) (.int .i64 x), by simp [World.setCell, Array.getElem?_modify, hg], by simpa using hs, by simpa using hl, fun i q hi => ?_⟩
  simp only [Array.getElem?_setIfInBounds]
  rw [List.getElem?_set] at hi
  by_cases e : k = i
  · subst e
    rw [if_pos rfl, if_pos hkl] at hi
    simp only [Option.some.injEq] at hi
    subst hi
    have := hc k r hk
    refine ⟨?_, ?_⟩
    all_goals first | (rw [if_pos (by omega), if_pos (by omega)]; done) | (rw [if_neg (by omega)]; simp [this])
  · rw [if_neg e] at hi
    have := hc i q hi
    refine ⟨?_, ?_⟩
    all_goals (rw [if_neg (by omega)]; simp [this])
theorem BR2.put1 (h : BR2 w g T n xs) {k : Nat} {r : R2} (hk : xs[k]? = some r) (x : Int) : BR2 (w.setCell ⟨g, k * 2 + 1, none⟩ (.int .i64 x)) g T n (xs.set k { r with b := x }) := by
  obtain ⟨cur, hg, hs, hl, hc⟩ := h
  have hkl : k < xs.length := (List.getElem?_eq_some_iff.1 hk).1
  refine ⟨cur.setIfInBounds (k * 2 + 1) (.int .i64 x), by simp [World.setCell, Array.getElem?_modify, hg], by simpa using hs, by simpa using hl, fun i q hi => ?_⟩
  simp only [Array.getElem?_setIfInBounds]
  rw [List.getElem?_set] at hi
  by_cases e : k = i
  · subst e
    rw [if_pos rfl, if_pos hkl] at hi
    simp only [Option.some.injEq] at hi
    subst hi
    have := hc k r hk
    refine ⟨?_, ?_⟩
    all_goals first | (rw [if_pos (by omega), if_pos (by omega)]; done) | (rw [if_neg (by omega)]; simp [this])
  · rw [if_neg e] at hi
    have := hc i q hi
    refine ⟨?_, ?_⟩
    all_goals (rw [if_neg (by omega)]; simp [this])
end

/-- Block g is the list's, whole, and may be written. -/
def BR3 (w : World) (g T n : Nat) (xs : List R3) : Prop := ∃ cur : Array Value, w.heap[g]? = some (.cells cur T (0, 0)) ∧ cur.size = n * 3 ∧ xs.length = n ∧ ∀ (i : Nat) (r : R3), xs[i]? = some r → cur[i * 3]? = some (.int .i64 r.a) ∧ cur[i * 3 + 1]? = some (.int .i64 r.b) ∧ cur[i * 3 + 2]? = some (.int .i64 r.c)
section
variable {w w' : World} {g T n : Nat} {xs : List R3}
theorem BR3.lt (h : BR3 w g T n xs) : g < w.heap.size := by
  obtain ⟨cur, hg, _⟩ := h
  exact (Array.getElem?_eq_some_iff.1 hg).1
theorem BR3.reads (h : BR3 w g T n xs) : SR3 w g 0 n xs := by
  have hlt := h.lt
  obtain ⟨cur, hg, hs, hl, hc⟩ := h
  refine ⟨hlt, hl, fun i r hi => ?_⟩
  have := hc i r hi
  simp only [Nat.zero_add, cell_of_row w g _ cur T (0, 0) hg]
  exact this
theorem BR3.block (h : BR3 w g T n xs) (hb : w'.heap[g]? = w.heap[g]?) : BR3 w' g T n xs := by
  obtain ⟨cur, hg, r⟩ := h
  exact ⟨cur, hb.trans hg, r⟩
theorem BR3.below {B : Nat} (h : BR3 w g T n xs) (hg : g < B) (hb : Below B w w') : BR3 w' g T n xs := h.block (hb.block g hg)
theorem BR3.later (h : BR3 w g T n xs) (x : Lat w) : BR3 (later w x) g T n xs := h.below h.lt (later_below w x)
theorem BR3.alloc (h : BR3 w g T n xs) (o : Obj) : BR3 (w.alloc o) g T n xs := h.block (Below.heap_alloc w o g h.lt)
theorem BR3.below2 (h : BR3 w g T n xs) (hb : Below w.heap.size w w') : BR3 w' g T n xs := h.below h.lt hb
theorem BR3.far (h : BR3 w g T n xs) {p : Addr} (hp : g ≠ p.block) (u : Value) : BR3 (w.setCell p u) g T n xs := h.block (Below.heap_setCell w p u g hp)
theorem BR3.free (h : BR3 w g T n xs) (i : Nat) : w.frozen? ⟨g, i, none⟩ = false := by
  obtain ⟨cur, hg, _⟩ := h
  simp [World.frozen?, hg]
theorem BR3.len (h : BR3 w g T n xs) : xs.length = n := by
  obtain ⟨_, _, _, hl, _⟩ := h
  exact hl
theorem BR3.put0 (h : BR3 w g T n xs) {k : Nat} {r : R3} (hk : xs[k]? = some r) (x : Int) : BR3 (w.setCell ⟨g, k * 3, none⟩ (.int .i64 x)) g T n (xs.set k { r with a := x }) := by
  obtain ⟨cur, hg, hs, hl, hc⟩ := h
  have hkl : k < xs.length := (List.getElem?_eq_some_iff.1 hk).1
  refine ⟨cur.setIfInBounds (k * 3) (.int .i64 x), by simp [World.setCell, Array.getElem?_modify, hg], by simpa using hs, by simpa using hl, fun i q hi => ?_⟩
  simp only [Array.getElem?_setIfInBounds]
  rw [List.getElem?_set] at hi
  by_cases e : k = i
  · subst e
    rw [if_pos rfl, if_pos hkl] at hi
    simp only [Option.some.injEq] at hi
    subst hi
    have := hc k r hk
    refine ⟨?_, ?_, ?_⟩
    all_goals first | (rw [if_pos (by omega), if_pos (by omega)]; done) | (rw [if_neg (by omega)]; simp [this])
  · rw [if_neg e] at hi
    have := hc i q hi
    refine ⟨?_, ?_, ?_⟩
    all_goals (rw [if_neg (by omega)]; simp [this])
theorem BR3.put1 (h : BR3 w g T n xs) {k : Nat} {r : R3} (hk : xs[k]? = some r) (x : Int) : BR3 (w.setCell ⟨g, k * 3 + 1, none⟩ (.int .i64 x)) g T n (xs.set k { r with b := x }) := by
  obtain ⟨cur, hg, hs, hl, hc⟩ := h
  have hkl : k < xs.length := (List.getElem?_eq_some_iff.1 hk).1
  refine ⟨cur.setIfInBounds (k * 3 + 1) (.int .i64 x), by simp [World.setCell, Array.getElem?_modify, hg], by simpa using hs, by simpa using hl, fun i q hi => ?_⟩
  simp only [Array.getElem?_setIfInBounds]
  rw [List.getElem?_set] at hi
  by_cases e : k = i
  · subst e
    rw [if_pos rfl, if_pos hkl] at hi
    simp only [Option.some.injEq] at hi
    subst hi
    have := hc k r hk
    refine ⟨?_, ?_, ?_⟩
    all_goals first | (rw [if_pos (by omega), if_pos (by omega)]; done) | (rw [if_neg (by omega)]; simp [this])
  · rw [if_neg e] at hi
    have := hc i q hi
    refine ⟨?_, ?_, ?_⟩
    all_goals (rw [if_neg (by omega)]; simp [this])
theorem BR3.put2 (h : BR3 w g T n xs) {k : Nat} {r : R3} (hk : xs[k]? = some r) (x : Int) : BR3 (w.setCell ⟨g, k * 3 + 2, none⟩ (.int .i64 x)) g T n (xs.set k { r with c := x }) := by
  obtain ⟨cur, hg, hs, hl, hc⟩ := h
  have hkl : k < xs.length := (List.getElem?_eq_some_iff.1 hk).1
  refine ⟨cur.setIfInBounds (k * 3 + 2) (.int .i64 x), by simp [World.setCell, Array.getElem?_modify, hg], by simpa using hs, by simpa using hl, fun i q hi => ?_⟩
  simp only [Array.getElem?_setIfInBounds]
  rw [List.getElem?_set] at hi
  by_cases e : k = i
  · subst e
    rw [if_pos rfl, if_pos hkl] at hi
    simp only [Option.some.injEq] at hi
    subst hi
    have := hc k r hk
    refine ⟨?_, ?_, ?_⟩
    all_goals first | (rw [if_pos (by omega), if_pos (by omega)]; done) | (rw [if_neg (by omega)]; simp [this])
  · rw [if_neg e] at hi
    have := hc i q hi
    refine ⟨?_, ?_, ?_⟩
    all_goals (rw [if_neg (by omega)]; simp [this])
end

/-- Block g is the list's, whole, and may be written. -/
def BSup (w : World) (g T n : Nat) (xs : List Sup) : Prop := ∃ cur : Array Value, w.heap[g]? = some (.cells cur T (0, 0)) ∧ cur.size = n * 3 ∧ xs.length = n ∧ ∀ (i : Nat) (r : Sup), xs[i]? = some r → cur[i * 3]? = some (.int .i64 r.at_) ∧ cur[i * 3 + 1]? = some (.int .i64 r.h) ∧ cur[i * 3 + 2]? = some (.bool r.st)
section
variable {w w' : World} {g T n : Nat} {xs : List Sup}
theorem BSup.lt (h : BSup w g T n xs) : g < w.heap.size := by
  obtain ⟨cur, hg, _⟩ := h
  exact (Array.getElem?_eq_some_iff.1 hg).1
theorem BSup.reads (h : BSup w g T n xs) : SSup w g 0 n xs := by
  have hlt := h.lt
  obtain ⟨cur, hg, hs, hl, hc⟩ := h
  refine ⟨hlt, hl, fun i r hi => ?_⟩
  have := hc i r hi
  simp only [Nat.zero_add, cell_of_row w g _ cur T (0, 0) hg]
  exact this
theorem BSup.block (h : BSup w g T n xs) (hb : w'.heap[g]? = w.heap[g]?) : BSup w' g T n xs := by
  obtain ⟨cur, hg, r⟩ := h
  exact ⟨cur, hb.trans hg, r⟩
theorem BSup.below {B : Nat} (h : BSup w g T n xs) (hg : g < B) (hb : Below B w w') : BSup w' g T n xs := h.block (hb.block g hg)
theorem BSup.later (h : BSup w g T n xs) (x : Lat w) : BSup (later w x) g T n xs := h.below h.lt (later_below w x)
theorem BSup.alloc (h : BSup w g T n xs) (o : Obj) : BSup (w.alloc o) g T n xs := h.block (Below.heap_alloc w o g h.lt)
theorem BSup.below2 (h : BSup w g T n xs) (hb : Below w.heap.size w w') : BSup w' g T n xs := h.below h.lt hb
theorem BSup.far (h : BSup w g T n xs) {p : Addr} (hp : g ≠ p.block) (u : Value) : BSup (w.setCell p u) g T n xs := h.block (Below.heap_setCell w p u g hp)
theorem BSup.free (h : BSup w g T n xs) (i : Nat) : w.frozen? ⟨g, i, none⟩ = false := by
  obtain ⟨cur, hg, _⟩ := h
  simp [World.frozen?, hg]
theorem BSup.len (h : BSup w g T n xs) : xs.length = n := by
  obtain ⟨_, _, _, hl, _⟩ := h
  exact hl
theorem BSup.put0 (h : BSup w g T n xs) {k : Nat} {r : Sup} (hk : xs[k]? = some r) (x : Int) : BSup (w.setCell ⟨g, k * 3, none⟩ (.int .i64 x)) g T n (xs.set k { r with at_ := x }) := by
  obtain ⟨cur, hg, hs, hl, hc⟩ := h
  have hkl : k < xs.length := (List.getElem?_eq_some_iff.1 hk).1
  refine ⟨cur.setIfInBounds (k * 3) (.int .i64 x), by simp [World.setCell, Array.getElem?_modify, hg], by simpa using hs, by simpa using hl, fun i q hi => ?_⟩
  simp only [Array.getElem?_setIfInBounds]
  rw [List.getElem?_set] at hi
  by_cases e : k = i
  · subst e
    rw [if_pos rfl, if_pos hkl] at hi
    simp only [Option.some.injEq] at hi
    subst hi
    have := hc k r hk
    refine ⟨?_, ?_, ?_⟩
    all_goals first | (rw [if_pos (by omega), if_pos (by omega)]; done) | (rw [if_neg (by omega)]; simp [this])
  · rw [if_neg e] at hi
    have := hc i q hi
    refine ⟨?_, ?_, ?_⟩
    all_goals (rw [if_neg (by omega)]; simp [this])
theorem BSup.put1 (h : BSup w g T n xs) {k : Nat} {r : Sup} (hk : xs[k]? = some r) (x : Int) : BSup (w.setCell ⟨g, k * 3 + 1, none⟩ (.int .i64 x)) g T n (xs.set k { r with h := x }) := by
  obtain ⟨cur, hg, hs, hl, hc⟩ := h
  have hkl : k < xs.length := (List.getElem?_eq_some_iff.1 hk).1
  refine ⟨cur.setIfInBounds (k * 3 + 1) (.int .i64 x), by simp [World.setCell, Array.getElem?_modify, hg], by simpa using hs, by simpa using hl, fun i q hi => ?_⟩
  simp only [Array.getElem?_setIfInBounds]
  rw [List.getElem?_set] at hi
  by_cases e : k = i
  · subst e
    rw [if_pos rfl, if_pos hkl] at hi
    simp only [Option.some.injEq] at hi
    subst hi
    have := hc k r hk
    refine ⟨?_, ?_, ?_⟩
    all_goals first | (rw [if_pos (by omega), if_pos (by omega)]; done) | (rw [if_neg (by omega)]; simp [this])
  · rw [if_neg e] at hi
    have := hc i q hi
    refine ⟨?_, ?_, ?_⟩
    all_goals (rw [if_neg (by omega)]; simp [this])
theorem BSup.put2 (h : BSup w g T n xs) {k : Nat} {r : Sup} (hk : xs[k]? = some r) (x : Bool) : BSup (w.setCell ⟨g, k * 3 + 2, none⟩ (.bool x)) g T n (xs.set k { r with st := x }) := by
  obtain ⟨cur, hg, hs, hl, hc⟩ := h
  have hkl : k < xs.length := (List.getElem?_eq_some_iff.1 hk).1
  refine ⟨cur.setIfInBounds (k * 3 + 2) (.bool x), by simp [World.setCell, Array.getElem?_modify, hg], by simpa using hs, by simpa using hl, fun i q hi => ?_⟩
  simp only [Array.getElem?_setIfInBounds]
  rw [List.getElem?_set] at hi
  by_cases e : k = i
  · subst e
    rw [if_pos rfl, if_pos hkl] at hi
    simp only [Option.some.injEq] at hi
    subst hi
    have := hc k r hk
    refine ⟨?_, ?_, ?_⟩
    all_goals first | (rw [if_pos (by omega), if_pos (by omega)]; done) | (rw [if_neg (by omega)]; simp [this])
  · rw [if_neg e] at hi
    have := hc i q hi
    refine ⟨?_, ?_, ?_⟩
    all_goals (rw [if_neg (by omega)]; simp [this])
end

/-- Block g is the list's, whole, and may be written. -/
def BR5 (w : World) (g T n : Nat) (xs : List R5) : Prop := ∃ cur : Array Value, w.heap[g]? = some (.cells cur T (0, 0)) ∧ cur.size = n * 5 ∧ xs.length = n ∧ ∀ (i : Nat) (r : R5), xs[i]? = some r → cur[i * 5]? = some (.int .i64 r.a) ∧ cur[i * 5 + 1]? = some (.int .i64 r.b) ∧ cur[i * 5 + 2]? = some (.int .i64 r.c) ∧ cur[i * 5 + 3]? = some (.int .i64 r.d) ∧ cur[i * 5 + 4]? = some (.int .i64 r.e)
section
variable {w w' : World} {g T n : Nat} {xs : List R5}
theorem BR5.lt (h : BR5 w g T n xs) : g < w.heap.size := by
  obtain ⟨cur, hg, _⟩ := h
  exact (Array.getElem?_eq_some_iff.1 hg).1
theorem BR5.reads (h : BR5 w g T n xs) : SR5 w g 0 n xs := by
  have hlt := h.lt
  obtain ⟨cur, hg, hs, hl, hc⟩ := h
  refine ⟨hlt, hl, fun i r hi => ?_⟩
  have := hc i r hi
  simp only [Nat.zero_add, cell_of_row w g _ cur T (0, 0) hg]
  exact this
theorem BR5.block (h : BR5 w g T n xs) (hb : w'.heap[g]? = w.heap[g]?) : BR5 w' g T n xs := by
  obtain ⟨cur, hg, r⟩ := h
  exact ⟨cur, hb.trans hg, r⟩
theorem BR5.below {B : Nat} (h : BR5 w g T n xs) (hg : g < B) (hb : Below B w w') : BR5 w' g T n xs := h.block (hb.block g hg)
theorem BR5.later (h : BR5 w g T n xs) (x : Lat w) : BR5 (later w x) g T n xs := h.below h.lt (later_below w x)
theorem BR5.alloc (h : BR5 w g T n xs) (o : Obj) : BR5 (w.alloc o) g T n xs := h.block (Below.heap_alloc w o g h.lt)
theorem BR5.below2 (h : BR5 w g T n xs) (hb : Below w.heap.size w w') : BR5 w' g T n xs := h.below h.lt hb
theorem BR5.far (h : BR5 w g T n xs) {p : Addr} (hp : g ≠ p.block) (u : Value) : BR5 (w.setCell p u) g T n xs := h.block (Below.heap_setCell w p u g hp)
theorem BR5.free (h : BR5 w g T n xs) (i : Nat) : w.frozen? ⟨g, i, none⟩ = false := by
  obtain ⟨cur, hg, _⟩ := h
  simp [World.frozen?, hg]
theorem BR5.len (h : BR5 w g T n xs) : xs.length = n := by
  obtain ⟨_, _, _, hl, _⟩ := h
  exact hl
theorem BR5.put0 (h : BR5 w g T n xs) {k : Nat} {r : R5} (hk : xs[k]? = some r) (x : Int) : BR5 (w.setCell ⟨g, k * 5, none⟩ (.int .i64 x)) g T n (xs.set k { r with a := x }) := by
  obtain ⟨cur, hg, hs, hl, hc⟩ := h
  have hkl : k < xs.length := (List.getElem?_eq_some_iff.1 hk).1
  refine ⟨cur.setIfInBounds (k * 5) (.int .i64 x), by simp [World.setCell, Array.getElem?_modify, hg], by simpa using hs, by simpa using hl, fun i q hi => ?_⟩
  simp only [Array.getElem?_setIfInBounds]
  rw [List.getElem?_set] at hi
  by_cases e : k = i
  · subst e
    rw [if_pos rfl, if_pos hkl] at hi
    simp only [Option.some.injEq] at hi
    subst hi
    have := hc k r hk
    refine ⟨?_, ?_, ?_, ?_, ?_⟩
    all_goals first | (rw [if_pos (by omega), if_pos (by omega)]; done) | (rw [if_neg (by omega)]; simp [this])
  · rw [if_neg e] at hi
    have := hc i q hi
    refine ⟨?_, ?_, ?_, ?_, ?_⟩
    all_goals (rw [if_neg (by omega)]; simp [this])
theorem BR5.put1 (h : BR5 w g T n xs) {k : Nat} {r : R5} (hk : xs[k]? = some r) (x : Int) : BR5 (w.setCell ⟨g, k * 5 + 1, none⟩ (.int .i64 x)) g T n (xs.set k { r with b := x }) := by
  obtain ⟨cur, hg, hs, hl, hc⟩ := h
  have hkl : k < xs.length := (List.getElem?_eq_some_iff.1 hk).1
  refine ⟨cur.setIfInBounds (k * 5 + 1) (.int .i64 x), by simp [World.setCell, Array.getElem?_modify, hg], by simpa using hs, by simpa using hl, fun i q hi => ?_⟩
  simp only [Array.getElem?_setIfInBounds]
  rw [List.getElem?_set] at hi
  by_cases e : k = i
  · subst e
    rw [if_pos rfl, if_pos hkl] at hi
    simp only [Option.some.injEq] at hi
    subst hi
    have := hc k r hk
    refine ⟨?_, ?_, ?_, ?_, ?_⟩
    all_goals first | (rw [if_pos (by omega), if_pos (by omega)]; done) | (rw [if_neg (by omega)]; simp [this])
  · rw [if_neg e] at hi
    have := hc i q hi
    refine ⟨?_, ?_, ?_, ?_, ?_⟩
    all_goals (rw [if_neg (by omega)]; simp [this])
theorem BR5.put2 (h : BR5 w g T n xs) {k : Nat} {r : R5} (hk : xs[k]? = some r) (x : Int) : BR5 (w.setCell ⟨g, k * 5 + 2, none⟩ (.int .i64 x)) g T n (xs.set k { r with c := x }) := by
  obtain ⟨cur, hg, hs, hl, hc⟩ := h
  have hkl : k < xs.length := (List.getElem?_eq_some_iff.1 hk).1
  refine ⟨cur.setIfInBounds (k * 5 + 2) (.int .i64 x), by simp [World.setCell, Array.getElem?_modify, hg], by simpa using hs, by simpa using hl, fun i q hi => ?_⟩
  simp only [Array.getElem?_setIfInBounds]
  rw [List.getElem?_set] at hi
  by_cases e : k = i
  · subst e
    rw [if_pos rfl, if_pos hkl] at hi
    simp only [Option.some.injEq] at hi
    subst hi
    have := hc k r hk
    refine ⟨?_, ?_, ?_, ?_, ?_⟩
    all_goals first | (rw [if_pos (by omega), if_pos (by omega)]; done) | (rw [if_neg (by omega)]; simp [this])
  · rw [if_neg e] at hi
    have := hc i q hi
    refine ⟨?_, ?_, ?_, ?_, ?_⟩
    all_goals (rw [if_neg (by omega)]; simp [this])
theorem BR5.put3 (h : BR5 w g T n xs) {k : Nat} {r : R5} (hk : xs[k]? = some r) (x : Int) : BR5 (w.setCell ⟨g, k * 5 + 3, none⟩ (.int .i64 x)) g T n (xs.set k { r with d := x }) := by
  obtain ⟨cur, hg, hs, hl, hc⟩ := h
  have hkl : k < xs.length := (List.getElem?_eq_some_iff.1 hk).1
  refine ⟨cur.setIfInBounds (k * 5 + 3) (.int .i64 x), by simp [World.setCell, Array.getElem?_modify, hg], by simpa using hs, by simpa using hl, fun i q hi => ?_⟩
  simp only [Array.getElem?_setIfInBounds]
  rw [List.getElem?_set] at hi
  by_cases e : k = i
  · subst e
    rw [if_pos rfl, if_pos hkl] at hi
    simp only [Option.some.injEq] at hi
    subst hi
    have := hc k r hk
    refine ⟨?_, ?_, ?_, ?_, ?_⟩
    all_goals first | (rw [if_pos (by omega), if_pos (by omega)]; done) | (rw [if_neg (by omega)]; simp [this])
  · rw [if_neg e] at hi
    have := hc i q hi
    refine ⟨?_, ?_, ?_, ?_, ?_⟩
    all_goals (rw [if_neg (by omega)]; simp [this])
theorem BR5.put4 (h : BR5 w g T n xs) {k : Nat} {r : R5} (hk : xs[k]? = some r) (x : Int) : BR5 (w.setCell ⟨g, k * 5 + 4, none⟩ (.int .i64 x)) g T n (xs.set k { r with e := x }) := by
  obtain ⟨cur, hg, hs, hl, hc⟩ := h
  have hkl : k < xs.length := (List.getElem?_eq_some_iff.1 hk).1
  refine ⟨cur.setIfInBounds (k * 5 + 4) (.int .i64 x), by simp [World.setCell, Array.getElem?_modify, hg], by simpa using hs, by simpa using hl, fun i q hi => ?_⟩
  simp only [Array.getElem?_setIfInBounds]
  rw [List.getElem?_set] at hi
  by_cases e : k = i
  · subst e
    rw [if_pos rfl, if_pos hkl] at hi
    simp only [Option.some.injEq] at hi
    subst hi
    have := hc k r hk
    refine ⟨?_, ?_, ?_, ?_, ?_⟩
    all_goals first | (rw [if_pos (by omega), if_pos (by omega)]; done) | (rw [if_neg (by omega)]; simp [this])
  · rw [if_neg e] at hi
    have := hc i q hi
    refine ⟨?_, ?_, ?_, ?_, ?_⟩
    all_goals (rw [if_neg (by omega)]; simp [this])
end
theorem made_at (z : Array Value) (m k i j : Nat) (hz : z.size = m) (hj : j < m) (hi : i < k) : (madeCells z (k * m))[i * m + j]? = z[j]? := by
  have h1 : i * m + j < k * m := by
    have : (i + 1) * m ≤ k * m := Nat.mul_le_mul_right m hi
    rw [Nat.add_mul, Nat.one_mul] at this
    omega
  have h2 : (i * m + j) % z.size = j := by rw [hz, Nat.mul_comm, Nat.mul_add_mod, Nat.mod_eq_of_lt hj]
  have h3 : j < z.size := by omega
  simp only [madeCells, Array.getElem?_map]
  rw [Array.getElem?_range, if_pos h1]
  simp only [Option.map_some, h2]
  rw [Array.getElem?_eq_getElem h3, getElem!_pos z j h3]
/-- What the functions that count a slice's places hand back. -/
def szF (n : Nat) (l : Int) : Int := if l - n < 0 then -1 else l - n
theorem BR2.made (w : World) (T n : Nat) : BR2 (w.alloc (.cells (madeCells #[.int .i64 0, .int .i64 0] (n * 2)) T)) w.heap.size T n (List.replicate n R2.zero) := by
  refine ⟨_, heap_alloc_new w _, size_madeCells _ _, by simp, fun i r hr => ?_⟩
  have hi : i < n := by
    have := (List.getElem?_eq_some_iff.1 hr).1
    simpa using this
  have hr' : r = R2.zero := by
    rw [List.getElem?_replicate, if_pos hi] at hr
    exact (by simpa using hr : R2.zero = r).symm
  subst hr'
  exact ⟨made_at _ 2 n i 0 rfl (by omega) hi, made_at _ 2 n i 1 rfl (by omega) hi⟩
theorem BR3.made (w : World) (T n : Nat) : BR3 (w.alloc (.cells (madeCells #[.int .i64 0, .int .i64 0, .int .i64 0] (n * 3)) T)) w.heap.size T n (List.replicate n R3.zero) := by
  refine ⟨_, heap_alloc_new w _, size_madeCells _ _, by simp, fun i r hr => ?_⟩
  have hi : i < n := by
    have := (List.getElem?_eq_some_iff.1 hr).1
    simpa using this
  have hr' : r = R3.zero := by
    rw [List.getElem?_replicate, if_pos hi] at hr
    exact (by simpa using hr : R3.zero = r).symm
  subst hr'
  exact ⟨made_at _ 3 n i 0 rfl (by omega) hi, made_at _ 3 n i 1 rfl (by omega) hi, made_at _ 3 n i 2 rfl (by omega) hi⟩
theorem BSup.made (w : World) (T n : Nat) : BSup (w.alloc (.cells (madeCells #[.int .i64 0, .int .i64 0, .bool false] (n * 3)) T)) w.heap.size T n (List.replicate n Sup.zero) := by
  refine ⟨_, heap_alloc_new w _, size_madeCells _ _, by simp, fun i r hr => ?_⟩
  have hi : i < n := by
    have := (List.getElem?_eq_some_iff.1 hr).1
    simpa using this
  have hr' : r = Sup.zero := by
    rw [List.getElem?_replicate, if_pos hi] at hr
    exact (by simpa using hr : Sup.zero = r).symm
  subst hr'
  exact ⟨made_at _ 3 n i 0 rfl (by omega) hi, made_at _ 3 n i 1 rfl (by omega) hi, made_at _ 3 n i 2 rfl (by omega) hi⟩
theorem BR5.made (w : World) (T n : Nat) : BR5 (w.alloc (.cells (madeCells #[.int .i64 0, .int .i64 0, .int .i64 0, .int .i64 0, .int .i64 0] (n * 5)) T)) w.heap.size T n (List.replicate n R5.zero) := by
  refine ⟨_, heap_alloc_new w _, size_madeCells _ _, by simp, fun i r hr => ?_⟩
  have hi : i < n := by
    have := (List.getElem?_eq_some_iff.1 hr).1
    simpa using this
  have hr' : r = R5.zero := by
    rw [List.getElem?_replicate, if_pos hi] at hr
    exact (by simpa using hr : R5.zero = r).symm
  subst hr'
  exact ⟨made_at _ 5 n i 0 rfl (by omega) hi, made_at _ 5 n i 1 rfl (by omega) hi, made_at _ 5 n i 2 rfl (by omega) hi, made_at _ 5 n i 3 rfl (by omega) hi, made_at _ 5 n i 4 rfl (by omega) hi⟩
theorem BR2.store {w : World} {g T n : Nat} {xs : List R2} (h : BR2 w g T n xs) {k : Nat} {q : R2} (hk : xs[k]? = some q) (r : R2) : BR2 ((w.setCell ⟨g, k * 2, none⟩ (.int .i64 r.a)).setCell ⟨g, k * 2 + 1, none⟩ (.int .i64 r.b)) g T n (xs.set k r) := by
  have hkl : k < xs.length := (List.getElem?_eq_some_iff.1 hk).1
  have p0 := h.put0 (k := k) (r := q) hk r.a
  have p1 := p0.put1 (k := k) (r := { q with a := r.a }) (by simp [hkl]) r.b
  simpa only [List.set_set] using p1

theorem BR3.store {w : World} {g T n : Nat} {xs : List R3} (h : BR3 w g T n xs) {k : Nat} {q : R3} (hk : xs[k]? = some q) (r : R3) : BR3 (((w.setCell ⟨g, k * 3, none⟩ (.int .i64 r.a)).setCell ⟨g, k * 3 + 1, none⟩ (.int .i64 r.b)).setCell ⟨g, k * 3 + 2, none⟩ (.int .i64 r.c)) g T n (xs.set k r) := by
  have hkl : k < xs.length := (List.getElem?_eq_some_iff.1 hk).1
  have p0 := h.put0 (k := k) (r := q) hk r.a
  have p1 := p0.put1 (k := k) (r := { q with a := r.a }) (by simp [hkl]) r.b
  have p2 := p1.put2 (k := k) (r := { { q with a := r.a } with b := r.b }) (by simp [hkl]) r.c
  simpa only [List.set_set] using p2

theorem BSup.store {w : World} {g T n : Nat} {xs : List Sup} (h : BSup w g T n xs) {k : Nat} {q : Sup} (hk : xs[k]? = some q) (r : Sup) : BSup (((w.setCell ⟨g, k * 3, none⟩ (.int .i64 r.at_)).setCell ⟨g, k * 3 + 1, none⟩ (.int .i64 r.h)).setCell ⟨g, k * 3 + 2, none⟩ (.bool r.st)) g T n (xs.set k r) := by
  have hkl : k < xs.length := (List.getElem?_eq_some_iff.1 hk).1
  have p0 := h.put0 (k := k) (r := q) hk r.at_
  have p1 := p0.put1 (k := k) (r := { q with at_ := r.at_ }) (by simp [hkl]) r.h
  have p2 := p1.put2 (k := k) (r := { { q with at_ := r.at_ } with h := r.h }) (by simp [hkl]) r.st
  simpa only [List.set_set] using p2

theorem BR5.store {w : World} {g T n : Nat} {xs : List R5} (h : BR5 w g T n xs) {k : Nat} {q : R5} (hk : xs[k]? = some q) (r : R5) : BR5 (((((w.setCell ⟨g, k * 5, none⟩ (.int .i64 r.a)).setCell ⟨g, k * 5 + 1, none⟩ (.int .i64 r.b)).setCell ⟨g, k * 5 + 2, none⟩ (.int .i64 r.c)).setCell ⟨g, k * 5 + 3, none⟩ (.int .i64 r.d)).setCell ⟨g, k * 5 + 4, none⟩ (.int .i64 r.e)) g T n (xs.set k r) := by
  have hkl : k < xs.length := (List.getElem?_eq_some_iff.1 hk).1
  have p0 := h.put0 (k := k) (r := q) hk r.a
  have p1 := p0.put1 (k := k) (r := { q with a := r.a }) (by simp [hkl]) r.b
  have p2 := p1.put2 (k := k) (r := { { q with a := r.a } with b := r.b }) (by simp [hkl]) r.c
  have p3 := p2.put3 (k := k) (r := { { { q with a := r.a } with b := r.b } with c := r.c }) (by simp [hkl]) r.d
  have p4 := p3.put4 (k := k) (r := { { { { q with a := r.a } with b := r.b } with c := r.c } with d := r.d }) (by simp [hkl]) r.e
  simpa only [List.set_set] using p4
end Go.Proofs.YtnibhaabhjgmgaaDoor
