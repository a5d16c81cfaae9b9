/- Small plain lemmas on worlds that this seat's walks use. No program in sight. -/
import Derived.WalkKit
import Derived.BigQuiet
import Derived.StillTailTactics
import Derived.Lib.Hide
namespace Go.Proofs.YtnibhaabhjgmgaaDoor
open Go.RowKit

/-- A world behind w: nothing that was in w has turned. -/
structure Lat (w : World) where
  val : World
  below : Below w.heap.size w val
instance (w : World) : Nonempty (Lat w) := ⟨⟨w, Below.refl _ _⟩⟩
def later (w : World) (x : Lat w) : World := x.val
theorem later_below (w : World) (x : Lat w) : Below w.heap.size w (later w x) := x.below
theorem exists_later {w w' : World} (h : Below w.heap.size w w') : ∃ x : Lat w, w' = later w x := ⟨⟨w', h⟩, rfl⟩
theorem later_size (w : World) (x : Lat w) : w.heap.size ≤ (later w x).heap.size := x.below.size
@[go_sem] theorem cell_later (w : World) (x : Lat w) (n i : Nat) (hn : n < w.heap.size) : (later w x).cell? ⟨n, i, none⟩ = w.cell? ⟨n, i, none⟩ := x.below.cell hn
@[go_sem] theorem frozen_later (w : World) (x : Lat w) (n i : Nat) (hn : n < w.heap.size) : (later w x).frozen? ⟨n, i, none⟩ = w.frozen? ⟨n, i, none⟩ := x.below.frozen hn
@[go_sem] theorem lt_later (w : World) (x : Lat w) (n : Nat) (hn : n < w.heap.size) : n < (later w x).heap.size := Nat.lt_of_lt_of_le hn x.below.size
@[go_sem] theorem le_later (w : World) (x : Lat w) (n : Nat) (hn : n < w.heap.size) : n ≤ (later w x).heap.size := Nat.le_of_lt (lt_later w x n hn)
@[go_sem] theorem lt_later1 (w : World) (x : Lat w) (n : Nat) (hn : n < w.heap.size) : n < (later w x).heap.size + 1 := by have := lt_later w x n hn; omega
@[go_sem] theorem le_later1 (w : World) (x : Lat w) (n : Nat) (hn : n < w.heap.size) : n ≤ (later w x).heap.size + 1 := by have := lt_later w x n hn; omega
@[go_sem] theorem lt_later2 (w : World) (x : Lat w) (n : Nat) (hn : n < w.heap.size) : n < (later w x).heap.size + 1 + 1 := by have := lt_later w x n hn; omega
@[go_sem] theorem le_later2 (w : World) (x : Lat w) (n : Nat) (hn : n < w.heap.size) : n ≤ (later w x).heap.size + 1 + 1 := by have := lt_later w x n hn; omega
@[go_sem] theorem lt_later3 (w : World) (x : Lat w) (n : Nat) (hn : n < w.heap.size) : n < (later w x).heap.size + 1 + 1 + 1 := by have := lt_later w x n hn; omega
@[go_sem] theorem le_later3 (w : World) (x : Lat w) (n : Nat) (hn : n < w.heap.size) : n ≤ (later w x).heap.size + 1 + 1 + 1 := by have := lt_later w x n hn; omega
@[go_sem] theorem lt_later4 (w : World) (x : Lat w) (n : Nat) (hn : n < w.heap.size) : n < (later w x).heap.size + 1 + 1 + 1 + 1 := by have := lt_later w x n hn; omega
@[go_sem] theorem le_later4 (w : World) (x : Lat w) (n : Nat) (hn : n < w.heap.size) : n ≤ (later w x).heap.size + 1 + 1 + 1 + 1 := by have := lt_later w x n hn; omega
@[go_sem] theorem lt_self2 (n : Nat) : n < n + 1 + 1 := by omega
@[go_sem] theorem le_self2 (n : Nat) : n ≤ n + 1 + 1 := by omega
@[go_sem] theorem lt_self3 (n : Nat) : n < n + 1 + 1 + 1 := by omega
@[go_sem] theorem le_self3 (n : Nat) : n ≤ n + 1 + 1 + 1 := by omega
@[go_sem] theorem lt_self4 (n : Nat) : n < n + 1 + 1 + 1 + 1 := by omega
@[go_sem] theorem le_self4 (n : Nat) : n ≤ n + 1 + 1 + 1 + 1 := by omega
@[go_sem] theorem lt_self5 (n : Nat) : n < n + 1 + 1 + 1 + 1 + 1 := by omega
@[go_sem] theorem le_self5 (n : Nat) : n ≤ n + 1 + 1 + 1 + 1 + 1 := by omega
@[go_sem] theorem lt_self6 (n : Nat) : n < n + 1 + 1 + 1 + 1 + 1 + 1 := by omega
@[go_sem] theorem le_self6 (n : Nat) : n ≤ n + 1 + 1 + 1 + 1 + 1 + 1 := by omega
@[go_sem] theorem lt_self7 (n : Nat) : n < n + 1 + 1 + 1 + 1 + 1 + 1 + 1 := by omega
@[go_sem] theorem le_self7 (n : Nat) : n ≤ n + 1 + 1 + 1 + 1 + 1 + 1 + 1 := by omega
@[go_sem] theorem lt_self8 (n : Nat) : n < n + 1 + 1 + 1 + 1 + 1 + 1 + 1 + 1 := by omega
@[go_sem] theorem le_self8 (n : Nat) : n ≤ n + 1 + 1 + 1 + 1 + 1 + 1 + 1 + 1 := by omega
@[go_sem] theorem lt_later_1_0 (w : World) (o0 : Obj) (x : Lat (w.alloc o0)) (n : Nat) (hn : n < w.heap.size) : n < (later (w.alloc o0) x).heap.size := by have := lt_later (w.alloc o0) x n (by simp; omega); omega
@[go_sem] theorem le_later_1_0 (w : World) (o0 : Obj) (x : Lat (w.alloc o0)) (n : Nat) (hn : n < w.heap.size) : n ≤ (later (w.alloc o0) x).heap.size := by have := lt_later (w.alloc o0) x n (by simp; omega); omega
@[go_sem] theorem lt_later_1_1 (w : World) (o0 : Obj) (x : Lat (w.alloc o0)) (n : Nat) (hn : n < w.heap.size) : n < (later (w.alloc o0) x).heap.size + 1 := by have := lt_later (w.alloc o0) x n (by simp; omega); omega
@[go_sem] theorem le_later_1_1 (w : World) (o0 : Obj) (x : Lat (w.alloc o0)) (n : Nat) (hn : n < w.heap.size) : n ≤ (later (w.alloc o0) x).heap.size + 1 := by have := lt_later (w.alloc o0) x n (by simp; omega); omega
@[go_sem] theorem lt_later_1_2 (w : World) (o0 : Obj) (x : Lat (w.alloc o0)) (n : Nat) (hn : n < w.heap.size) : n < (later (w.alloc o0) x).heap.size + 1 + 1 := by have := lt_later (w.alloc o0) x n (by simp; omega); omega
@[go_sem] theorem le_later_1_2 (w : World) (o0 : Obj) (x : Lat (w.alloc o0)) (n : Nat) (hn : n < w.heap.size) : n ≤ (later (w.alloc o0) x).heap.size + 1 + 1 := by have := lt_later (w.alloc o0) x n (by simp; omega); omega
@[go_sem] theorem lt_later_1_3 (w : World) (o0 : Obj) (x : Lat (w.alloc o0)) (n : Nat) (hn : n < w.heap.size) : n < (later (w.alloc o0) x).heap.size + 1 + 1 + 1 := by have := lt_later (w.alloc o0) x n (by simp; omega); omega
@[go_sem] theorem le_later_1_3 (w : World) (o0 : Obj) (x : Lat (w.alloc o0)) (n : Nat) (hn : n < w.heap.size) : n ≤ (later (w.alloc o0) x).heap.size + 1 + 1 + 1 := by have := lt_later (w.alloc o0) x n (by simp; omega); omega
@[go_sem] theorem lt_later_2_0 (w : World) (o0 o1 : Obj) (x : Lat ((w.alloc o0).alloc o1)) (n : Nat) (hn : n < w.heap.size) : n < (later ((w.alloc o0).alloc o1) x).heap.size := by have := lt_later ((w.alloc o0).alloc o1) x n (by simp; omega); omega
@[go_sem] theorem le_later_2_0 (w : World) (o0 o1 : Obj) (x : Lat ((w.alloc o0).alloc o1)) (n : Nat) (hn : n < w.heap.size) : n ≤ (later ((w.alloc o0).alloc o1) x).heap.size := by have := lt_later ((w.alloc o0).alloc o1) x n (by simp; omega); omega
@[go_sem] theorem lt_later_2_1 (w : World) (o0 o1 : Obj) (x : Lat ((w.alloc o0).alloc o1)) (n : Nat) (hn : n < w.heap.size) : n < (later ((w.alloc o0).alloc o1) x).heap.size + 1 := by have := lt_later ((w.alloc o0).alloc o1) x n (by simp; omega); omega
@[go_sem] theorem le_later_2_1 (w : World) (o0 o1 : Obj) (x : Lat ((w.alloc o0).alloc o1)) (n : Nat) (hn : n < w.heap.size) : n ≤ (later ((w.alloc o0).alloc o1) x).heap.size + 1 := by have := lt_later ((w.alloc o0).alloc o1) x n (by simp; omega); omega
@[go_sem] theorem lt_later_2_2 (w : World) (o0 o1 : Obj) (x : Lat ((w.alloc o0).alloc o1)) (n : Nat) (hn : n < w.heap.size) : n < (later ((w.alloc o0).alloc o1) x).heap.size + 1 + 1 := by have := lt_later ((w.alloc o0).alloc o1) x n (by simp; omega); omega
@[go_sem] theorem le_later_2_2 (w : World) (o0 o1 : Obj) (x : Lat ((w.alloc o0).alloc o1)) (n : Nat) (hn : n < w.heap.size) : n ≤ (later ((w.alloc o0).alloc o1) x).heap.size + 1 + 1 := by have := lt_later ((w.alloc o0).alloc o1) x n (by simp; omega); omega
@[go_sem] theorem lt_later_2_3 (w : World) (o0 o1 : Obj) (x : Lat ((w.alloc o0).alloc o1)) (n : Nat) (hn : n < w.heap.size) : n < (later ((w.alloc o0).alloc o1) x).heap.size + 1 + 1 + 1 := by have := lt_later ((w.alloc o0).alloc o1) x n (by simp; omega); omega
@[go_sem] theorem le_later_2_3 (w : World) (o0 o1 : Obj) (x : Lat ((w.alloc o0).alloc o1)) (n : Nat) (hn : n < w.heap.size) : n ≤ (later ((w.alloc o0).alloc o1) x).heap.size + 1 + 1 + 1 := by have := lt_later ((w.alloc o0).alloc o1) x n (by simp; omega); omega
@[go_sem] theorem lt_later_3_0 (w : World) (o0 o1 o2 : Obj) (x : Lat (((w.alloc o0).alloc o1).alloc o2)) (n : Nat) (hn : n < w.heap.size) : n < (later (((w.alloc o0).alloc o1).alloc o2) x).heap.size := by have := lt_later (((w.alloc o0).alloc o1).alloc o2) x n (by simp; omega); omega
@[go_sem] theorem le_later_3_0 (w : World) (o0 o1 o2 : Obj) (x : Lat (((w.alloc o0).alloc o1).alloc o2)) (n : Nat) (hn : n < w.heap.size) : n ≤ (later (((w.alloc o0).alloc o1).alloc o2) x).heap.size := by have := lt_later (((w.alloc o0).alloc o1).alloc o2) x n (by simp; omega); omega
@[go_sem] theorem lt_later_3_1 (w : World) (o0 o1 o2 : Obj) (x : Lat (((w.alloc o0).alloc o1).alloc o2)) (n : Nat) (hn : n < w.heap.size) : n < (later (((w.alloc o0).alloc o1).alloc o2) x).heap.size + 1 := by have := lt_later (((w.alloc o0).alloc o1).alloc o2) x n (by simp; omega); omega
@[go_sem] theorem le_later_3_1 (w : World) (o0 o1 o2 : Obj) (x : Lat (((w.alloc o0).alloc o1).alloc o2)) (n : Nat) (hn : n < w.heap.size) : n ≤ (later (((w.alloc o0).alloc o1).alloc o2) x).heap.size + 1 := by have := lt_later (((w.alloc o0).alloc o1).alloc o2) x n (by simp; omega); omega
@[go_sem] theorem lt_later_3_2 (w : World) (o0 o1 o2 : Obj) (x : Lat (((w.alloc o0).alloc o1).alloc o2)) (n : Nat) (hn : n < w.heap.size) : n < (later (((w.alloc o0).alloc o1).alloc o2) x).heap.size + 1 + 1 := by have := lt_later (((w.alloc o0).alloc o1).alloc o2) x n (by simp; omega); omega
@[go_sem] theorem le_later_3_2 (w : World) (o0 o1 o2 : Obj) (x : Lat (((w.alloc o0).alloc o1).alloc o2)) (n : Nat) (hn : n < w.heap.size) : n ≤ (later (((w.alloc o0).alloc o1).alloc o2) x).heap.size + 1 + 1 := by have := lt_later (((w.alloc o0).alloc o1).alloc o2) x n (by simp; omega); omega
@[go_sem] theorem lt_later_3_3 (w : World) (o0 o1 o2 : Obj) (x : Lat (((w.alloc o0).alloc o1).alloc o2)) (n : Nat) (hn : n < w.heap.size) : n < (later (((w.alloc o0).alloc o1).alloc o2) x).heap.size + 1 + 1 + 1 := by have := lt_later (((w.alloc o0).alloc o1).alloc o2) x n (by simp; omega); omega
@[go_sem] theorem le_later_3_3 (w : World) (o0 o1 o2 : Obj) (x : Lat (((w.alloc o0).alloc o1).alloc o2)) (n : Nat) (hn : n < w.heap.size) : n ≤ (later (((w.alloc o0).alloc o1).alloc o2) x).heap.size + 1 + 1 + 1 := by have := lt_later (((w.alloc o0).alloc o1).alloc o2) x n (by simp; omega); omega
@[go_sem] theorem lt_later_4_0 (w : World) (o0 o1 o2 o3 : Obj) (x : Lat ((((w.alloc o0).alloc o1).alloc o2).alloc o3)) (n : Nat) (hn : n < w.heap.size) : n < (later ((((w.alloc o0).alloc o1).alloc o2).alloc o3) x).heap.size := by have := lt_later ((((w.alloc o0).alloc o1).alloc o2).alloc o3) x n (by simp; omega); omega
@[go_sem] theorem le_later_4_0 (w : World) (o0 o1 o2 o3 : Obj) (x : Lat ((((w.alloc o0).alloc o1).alloc o2).alloc o3)) (n : Nat) (hn : n < w.heap.size) : n ≤ (later ((((w.alloc o0).alloc o1).alloc o2).alloc o3) x).heap.size := by have := lt_later ((((w.alloc o0).alloc o1).alloc o2).alloc o3) x n (by simp; omega); omega
@[go_sem] theorem lt_later_4_1 (w : World) (o0 o1 o2 o3 : Obj) (x : Lat ((((w.alloc o0).alloc o1).alloc o2).alloc o3)) (n : Nat) (hn : n < w.heap.size) : n < (later ((((w.alloc o0).alloc o1).alloc o2).alloc o3) x).heap.size + 1 := by have := lt_later ((((w.alloc o0).alloc o1).alloc o2).alloc o3) x n (by simp; omega); omega
@[go_sem] theorem le_later_4_1 (w : World) (o0 o1 o2 o3 : Obj) (x : Lat ((((w.alloc o0).alloc o1).alloc o2).alloc o3)) (n : Nat) (hn : n < w.heap.size) : n ≤ (later ((((w.alloc o0).alloc o1).alloc o2).alloc o3) x).heap.size + 1 := by have := lt_later ((((w.alloc o0).alloc o1).alloc o2).alloc o3) x n (by simp; omega); omega
@[go_sem] theorem lt_later_4_2 (w : World) (o0 o1 o2 o3 : Obj) (x : Lat ((((w.alloc o0).alloc o1).alloc o2).alloc o3)) (n : Nat) (hn : n < w.heap.size) : n < (later ((((w.alloc o0).alloc o1).alloc o2).alloc o3) x).heap.size + 1 + 1 := by have := lt_later ((((w.alloc o0).alloc o1).alloc o2).alloc o3) x n (by simp; omega); omega
@[go_sem] theorem le_later_4_2 (w : World) (o0 o1 o2 o3 : Obj) (x : Lat ((((w.alloc o0).alloc o1).alloc o2).alloc o3)) (n : Nat) (hn : n < w.heap.size) : n ≤ (later ((((w.alloc o0).alloc o1).alloc o2).alloc o3) x).heap.size + 1 + 1 := by have := lt_later ((((w.alloc o0).alloc o1).alloc o2).alloc o3) x n (by simp; omega); omega
@[go_sem] theorem lt_later_4_3 (w : World) (o0 o1 o2 o3 : Obj) (x : Lat ((((w.alloc o0).alloc o1).alloc o2).alloc o3)) (n : Nat) (hn : n < w.heap.size) : n < (later ((((w.alloc o0).alloc o1).alloc o2).alloc o3) x).heap.size + 1 + 1 + 1 := by have := lt_later ((((w.alloc o0).alloc o1).alloc o2).alloc o3) x n (by simp; omega); omega
@[go_sem] theorem le_later_4_3 (w : World) (o0 o1 o2 o3 : Obj) (x : Lat ((((w.alloc o0).alloc o1).alloc o2).alloc o3)) (n : Nat) (hn : n < w.heap.size) : n ≤ (later ((((w.alloc o0).alloc o1).alloc o2).alloc o3) x).heap.size + 1 + 1 + 1 := by have := lt_later ((((w.alloc o0).alloc o1).alloc o2).alloc o3) x n (by simp; omega); omega
@[go_sem] theorem lt_plus2 (n m : Nat) (h : n < m) : n < m + 1 + 1 := by omega
@[go_sem] theorem le_plus2 (n m : Nat) (h : n < m) : n ≤ m + 1 + 1 := by omega
@[go_sem] theorem lt_plus3 (n m : Nat) (h : n < m) : n < m + 1 + 1 + 1 := by omega
@[go_sem] theorem le_plus3 (n m : Nat) (h : n < m) : n ≤ m + 1 + 1 + 1 := by omega
@[go_sem] theorem lt_plus4 (n m : Nat) (h : n < m) : n < m + 1 + 1 + 1 + 1 := by omega
@[go_sem] theorem le_plus4 (n m : Nat) (h : n < m) : n ≤ m + 1 + 1 + 1 + 1 := by omega
@[go_sem] theorem lt_plus5 (n m : Nat) (h : n < m) : n < m + 1 + 1 + 1 + 1 + 1 := by omega
@[go_sem] theorem le_plus5 (n m : Nat) (h : n < m) : n ≤ m + 1 + 1 + 1 + 1 + 1 := by omega
@[go_sem] theorem lt_plus6 (n m : Nat) (h : n < m) : n < m + 1 + 1 + 1 + 1 + 1 + 1 := by omega
@[go_sem] theorem le_plus6 (n m : Nat) (h : n < m) : n ≤ m + 1 + 1 + 1 + 1 + 1 + 1 := by omega
@[go_sem] theorem lt_plus7 (n m : Nat) (h : n < m) : n < m + 1 + 1 + 1 + 1 + 1 + 1 + 1 := by omega
@[go_sem] theorem le_plus7 (n m : Nat) (h : n < m) : n ≤ m + 1 + 1 + 1 + 1 + 1 + 1 + 1 := by omega
@[go_sem] theorem lt_plus8 (n m : Nat) (h : n < m) : n < m + 1 + 1 + 1 + 1 + 1 + 1 + 1 + 1 := by omega
@[go_sem] theorem le_plus8 (n m : Nat) (h : n < m) : n ≤ m + 1 + 1 + 1 + 1 + 1 + 1 + 1 + 1 := by omega
@[go_sem] theorem le_plus1 (n m : Nat) (h : n < m) : n ≤ m + 1 := by omega
@[go_sem] theorem lt_later_l0 (w : World) (x : Lat w) (y : Lat (later w x)) (n : Nat) (hn : n < w.heap.size) : n < (later (later w x) y).heap.size := by have := lt_later _ y n (lt_later w x n hn); omega
@[go_sem] theorem le_later_l0 (w : World) (x : Lat w) (y : Lat (later w x)) (n : Nat) (hn : n < w.heap.size) : n ≤ (later (later w x) y).heap.size := by have := lt_later _ y n (lt_later w x n hn); omega
@[go_sem] theorem lt_later_l1 (w : World) (x : Lat w) (y : Lat (later w x)) (n : Nat) (hn : n < w.heap.size) : n < (later (later w x) y).heap.size + 1 := by have := lt_later _ y n (lt_later w x n hn); omega
@[go_sem] theorem le_later_l1 (w : World) (x : Lat w) (y : Lat (later w x)) (n : Nat) (hn : n < w.heap.size) : n ≤ (later (later w x) y).heap.size + 1 := by have := lt_later _ y n (lt_later w x n hn); omega
@[go_sem] theorem lt_later_l2 (w : World) (x : Lat w) (y : Lat (later w x)) (n : Nat) (hn : n < w.heap.size) : n < (later (later w x) y).heap.size + 1 + 1 := by have := lt_later _ y n (lt_later w x n hn); omega
@[go_sem] theorem le_later_l2 (w : World) (x : Lat w) (y : Lat (later w x)) (n : Nat) (hn : n < w.heap.size) : n ≤ (later (later w x) y).heap.size + 1 + 1 := by have := lt_later _ y n (lt_later w x n hn); omega
@[go_sem] theorem lt_later_l3 (w : World) (x : Lat w) (y : Lat (later w x)) (n : Nat) (hn : n < w.heap.size) : n < (later (later w x) y).heap.size + 1 + 1 + 1 := by have := lt_later _ y n (lt_later w x n hn); omega
@[go_sem] theorem le_later_l3 (w : World) (x : Lat w) (y : Lat (later w x)) (n : Nat) (hn : n < w.heap.size) : n ≤ (later (later w x) y).heap.size + 1 + 1 + 1 := by have := lt_later _ y n (lt_later w x n hn); omega
/-- Two steps are one. -/
def Lat.comp {w : World} (x : Lat w) (y : Lat (later w x)) : Lat w := ⟨y.val, x.below.trans (y.below.mono x.below.size)⟩
theorem later_comp (w : World) (x : Lat w) (y : Lat (later w x)) : later (later w x) y = later w (x.comp y) := rfl
@[go_sem] theorem later_drew (w : World) (x : Lat w) : (later w x).drew = later w ⟨x.val.drew, x.below.drew⟩ := rfl

/-- The call returns v; nothing that was there has turned. -/
def Gv (P : Program) (f : FuncId) (args : Array Value) (w : World) (v : Value) : Prop :=
  Calls P f args w fun e w' => e = .returned v ∧ Below w.heap.size w w'
section
variable {P : Program} {f : FuncId} {args : Array Value} {w : World} {v : Value}
theorem Gv.on (h : Gv P f args w v) {R : Ending → World → Prop} (k : ∀ x : Lat w, R (.returned v) (later w x)) : Calls P f args w R :=
  Calls.mono h fun _ _ ⟨he, hb⟩ => by
    subst he
    obtain ⟨x, rfl⟩ := exists_later hb
    exact k x
theorem Gv.onL {x0 : Lat w} (h : Gv P f args (later w x0) v) {R : Ending → World → Prop} (k : ∀ x : Lat w, R (.returned v) (later w x)) : Calls P f args (later w x0) R :=
  h.on fun x => k (x0.comp x)
theorem Gv.quiet {w0 : World} {x : Lat w0} (h : Gv P f args (later w0 x) v) : Calls P f args (later w0 x) fun e w'' => e = .returned v ∧ ∃ y : Lat w0, w'' = later w0 y :=
  Calls.mono h fun _ _ ⟨he, hb⟩ => ⟨he, exists_later ((later_below w0 x).trans (hb.mono (later_size w0 x)))⟩
theorem Gv.quietT {w0 : World} {x : Lat w0} (h : Gv P f args (later w0 x) (.bool true)) : Calls P f args (later w0 x) fun e w'' => e = .returned (.bool true) ∧ ∃ y : Lat w0, w'' = later w0 y := h.quiet
end

attribute [irreducible] later
/-- A region that draws its order, whose operations read, and whose callees at most make new memory: walked once, in the order of the text. -/
theorem wp_region_later {P : Program} {id : Nat} {Q : Exit → Act → World → Prop} {a : Act} {w : World} {l : List Oper} (hm : P.follows .mixedOrders = true) (hB : Region.lexB .any l.toArray = true)
    (h : wpQuiet P l.toArray (fun w' => ∃ x : Lat w, w' = later w x) (fun a' => ∀ w', (∃ x : Lat w, w' = later w x) → Q .normal a' w') l a) : (Code.region id l.toArray true).wp P Q a w :=
  wp_region_quiet (C := fun w' => ∃ x : Lat w, w' = later w x) hm hB (exists_later (Below.refl _ _).drew) (by simpa using h)

theorem grown_later (w : World) (x : Lat w) (row : Option Nat) : w.grownBy (later w x) row := by
  have h := later_below w x
  exact ⟨h.os, h.tape, h.output, h.size, fun k hk _ => h.block k hk⟩
/-- A region that draws its order: operations that read, then a tail in one forced order. -/
theorem wp_region_tail {P : Program} {id : Nat} {Q : Exit → Act → World → Prop} {a : Act} {w : World} {l : List Oper} (n : Nat) (hm : P.follows .mixedOrders = true) (hB : Region.lexTailB .any l.toArray n = true)
    (h : wpStill P l.toArray w.drew (fun a' => wpList P l.toArray Q (l.drop n) a' w.drew) (l.take n) a) : (Code.region id l.toArray true).wp P Q a w := wp_region_still_tail n hm hB h
theorem bw_trans {a b c : World} (h : Below a.heap.size a b) (k : Below b.heap.size b c) : Below a.heap.size a c := h.trans (k.mono h.size)
theorem bw_later {a w : World} (h : Below a.heap.size a w) (x : Lat w) : Below a.heap.size a (later w x) := h.trans ((later_below w x).mono h.size)
theorem bw_alloc {a w : World} (h : Below a.heap.size a w) (o : Obj) : Below a.heap.size a (w.alloc o) := h.alloc h.size o
theorem bw_drew {a w : World} (h : Below a.heap.size a w) : Below a.heap.size a w.drew := h.drew
theorem bw_set {a w : World} (h : Below a.heap.size a w) {p : Addr} (hp : a.heap.size ≤ p.block) (u : Value) : Below a.heap.size a (w.setCell p u) := h.setCell hp u
theorem wp_region_tailL {P : Program} {id : Nat} {Q : Exit → Act → World → Prop} {a : Act} {w : World} {y : Lat w} {l : List Oper} (n : Nat) (hm : P.follows .mixedOrders = true) (hB : Region.lexTailB .any l.toArray n = true)
    (h : ∀ y' : Lat w, (later w y').heap = (later w y).heap → wpStill P l.toArray (later w y') (fun a' => wpList P l.toArray Q (l.drop n) a' (later w y')) (l.take n) a) : (Code.region id l.toArray true).wp P Q a (later w y) := by
  obtain ⟨y', hy⟩ := exists_later (bw_drew (later_below w y))
  refine wp_region_tail n hm hB ?_
  rw [hy]
  exact h y' (by rw [← hy]; rfl)
theorem own_of_heap {w w' : World} (h : w'.heap = w.heap) {base : Nat} {e : TypeId} {size : Nat} {v : Value} {n : Nat} {xs : List Value} (ho : w.ownsRow base e size v n xs) : w'.ownsRow base e size v n xs := by
  unfold World.ownsRow at *
  rw [h]
  exact ho
theorem ret_bool {a b : Bool} (h : a = b) : Ending.returned (.bool a) = .returned (.bool b) := by rw [h]
theorem ret_int {a b : Int} (h : a = b) : Ending.returned (.int .i64 a) = .returned (.int .i64 b) := by rw [h]

/-- A number that fits into 64 bits. -/
def I64 (x : Int) : Prop := -9223372036854775808 ≤ x ∧ x ≤ 9223372036854775807
/-- A number in its bounds. -/
def inB (n lo hi : Int) : Bool := decide (lo ≤ n) && decide (n ≤ hi)
theorem inB_t {n lo hi : Int} (h : inB n lo hi = true) : lo ≤ n ∧ n ≤ hi := by simpa [inB] using h
theorem inB_f {n lo hi : Int} (h : inB n lo hi = false) : n < lo ∨ hi < n := by
  simp only [inB, Bool.and_eq_false_iff, decide_eq_false_iff_not] at h
  omega
theorem inB_eq (n lo hi : Int) : inB n lo hi = decide (lo ≤ n ∧ n ≤ hi) := by simp [inB]

/-- A struct of two integers, of three, of two integers and a bool. -/
structure R2 where
  a : Int
  b : Int
def R2.v (r : R2) : Value := .agg #[.int .i64 r.a, .int .i64 r.b]
structure R3 where
  a : Int
  b : Int
  c : Int
def R3.v (r : R3) : Value := .agg #[.int .i64 r.a, .int .i64 r.b, .int .i64 r.c]
structure Sup where
  at_ : Int
  h : Int
  st : Bool
def Sup.v (r : Sup) : Value := .agg #[.int .i64 r.at_, .int .i64 r.h, .bool r.st]
/-- A struct of five integers. -/
structure R5 where
  a : Int
  b : Int
  c : Int
  d : Int
  e : Int
def R5.v (r : R5) : Value := .agg #[.int .i64 r.a, .int .i64 r.b, .int .i64 r.c, .int .i64 r.d, .int .i64 r.e]
theorem R2.eq_iff (r q : R2) : r = q ↔ r.a = q.a ∧ r.b = q.b := by cases r; cases q; simp
instance : DecidableEq R2 := fun r q => decidable_of_iff _ (R2.eq_iff r q).symm
def R2.zero : R2 := ⟨0, 0⟩
theorem R3.eq_iff (r q : R3) : r = q ↔ r.a = q.a ∧ r.b = q.b ∧ r.c = q.c := by cases r; cases q; simp
instance : DecidableEq R3 := fun r q => decidable_of_iff _ (R3.eq_iff r q).symm
def R3.zero : R3 := ⟨0, 0, 0⟩
theorem Sup.eq_iff (r q : Sup) : r = q ↔ r.at_ = q.at_ ∧ r.h = q.h ∧ r.st = q.st := by cases r; cases q; simp
instance : DecidableEq Sup := fun r q => decidable_of_iff _ (Sup.eq_iff r q).symm
def Sup.zero : Sup := ⟨0, 0, false⟩
theorem R5.eq_iff (r q : R5) : r = q ↔ r.a = q.a ∧ r.b = q.b ∧ r.c = q.c ∧ r.d = q.d ∧ r.e = q.e := by cases r; cases q; simp
instance : DecidableEq R5 := fun r q => decidable_of_iff _ (R5.eq_iff r q).symm
def R5.zero : R5 := ⟨0, 0, 0, 0, 0⟩
section
variable (w : World) (o o' o'' : Obj) (x : Lat (w.alloc o)) (y : Lat ((later (w.alloc o) x).alloc o'))
example : (later ((later (w.alloc o) x).alloc o') y).cell? ⟨w.heap.size, 3, none⟩ = (w.alloc o).cell? ⟨w.heap.size, 3, none⟩ := by simp [go_sem]
example (x : Lat ((w.alloc o).alloc o')) (y : Lat (((later ((w.alloc o).alloc o') x).alloc o').alloc o')) : (later (((later ((w.alloc o).alloc o') x).alloc o').alloc o') y).cell? ⟨w.heap.size + 1, 3, none⟩ = ((w.alloc o).alloc o').cell? ⟨w.heap.size + 1, 3, none⟩ := by simp [go_sem]
example (c : Array Value) (x : Lat ((w.alloc o).alloc o')) (y : Lat (((later ((w.alloc o).alloc o') x).alloc (.cells c 4)).alloc o')) : (later (((later ((w.alloc o).alloc o') x).alloc (.cells c 4)).alloc o') y).cell? ⟨(later ((w.alloc o).alloc o') x).heap.size, 3, none⟩ = c[3]? := by simp [go_sem]
example (b : Nat) (hb : b < w.heap.size) (x : Lat ((w.alloc o).alloc o')) (y : Lat (((later ((w.alloc o).alloc o') x).alloc o').alloc o')) : (later (((later ((w.alloc o).alloc o') x).alloc o').alloc o') y).cell? ⟨b, 3, none⟩ = w.cell? ⟨b, 3, none⟩ := by simp [go_sem, hb]
end
end Go.Proofs.YtnibhaabhjgmgaaDoor
