/- The clearance at a place: the program. -/
import Derived.Test.YtkdekpnnnpembaaGroundAt
import Derived.Test.YtkdekpnnnpembaaSag
namespace Go.Proofs.Ytkdekpnnnpembaa
open Go Go.RowKit
/-- Three blocks and what they hold. -/
structure Box3 (w0 : World) (t : TypeId) (x y z : Array Value) (b0 b1 b2 : Nat) (W : World) : Prop where
  below : Below w0.heap.size w0 W
  h0 : W.heap[b0]? = some (.cells x t (0, 0))
  h1 : W.heap[b1]? = some (.cells y t (0, 0))
  h2 : W.heap[b2]? = some (.cells z t (0, 0))
  n01 : b0 ≠ b1
  n02 : b0 ≠ b2
  n12 : b1 ≠ b2
  l0 : w0.heap.size ≤ b0
  l1 : w0.heap.size ≤ b1
  l2 : w0.heap.size ≤ b2
section
variable {w0 W : World} {t : TypeId} {x y z : Array Value} {b0 b1 b2 : Nat}
theorem Three.box {z : Array Value} (h : Three w0 z t b0 b1 b2 W) : Box3 w0 t z z z b0 b1 b2 W := ⟨h.below, h.h0, h.h1, h.h2, h.n01, h.n02, h.n12, h.l0, h.l1, h.l2⟩
theorem Box3.lt0 (h : Box3 w0 t x y z b0 b1 b2 W) : b0 < W.heap.size := (Array.getElem?_eq_some_iff.1 h.h0).1
theorem Box3.lt1 (h : Box3 w0 t x y z b0 b1 b2 W) : b1 < W.heap.size := (Array.getElem?_eq_some_iff.1 h.h1).1
theorem Box3.lt2 (h : Box3 w0 t x y z b0 b1 b2 W) : b2 < W.heap.size := (Array.getElem?_eq_some_iff.1 h.h2).1
theorem Box3.later (h : Box3 w0 t x y z b0 b1 b2 W) (k : Lat W) : Box3 w0 t x y z b0 b1 b2 (later W k) :=
  ⟨bw_later h.below k, ((later_below W k).block b0 h.lt0).trans h.h0, ((later_below W k).block b1 h.lt1).trans h.h1, ((later_below W k).block b2 h.lt2).trans h.h2, h.n01, h.n02, h.n12, h.l0, h.l1, h.l2⟩
theorem Box3.c0 (h : Box3 w0 t x y z b0 b1 b2 W) (i : Nat) : W.cell? ⟨b0, i, none⟩ = x[i]? := cell_of_row W b0 i x t (0, 0) h.h0
theorem Box3.c1 (h : Box3 w0 t x y z b0 b1 b2 W) (i : Nat) : W.cell? ⟨b1, i, none⟩ = y[i]? := cell_of_row W b1 i y t (0, 0) h.h1
theorem Box3.c2 (h : Box3 w0 t x y z b0 b1 b2 W) (i : Nat) : W.cell? ⟨b2, i, none⟩ = z[i]? := cell_of_row W b2 i z t (0, 0) h.h2
theorem Box3.f0 (h : Box3 w0 t x y z b0 b1 b2 W) (i : Nat) : W.frozen? ⟨b0, i, none⟩ = false := by simp [World.frozen?, h.h0]
theorem Box3.f1 (h : Box3 w0 t x y z b0 b1 b2 W) (i : Nat) : W.frozen? ⟨b1, i, none⟩ = false := by simp [World.frozen?, h.h1]
theorem Box3.f2 (h : Box3 w0 t x y z b0 b1 b2 W) (i : Nat) : W.frozen? ⟨b2, i, none⟩ = false := by simp [World.frozen?, h.h2]
theorem put_two {w : World} {g : Nat} {a b : Value} {t : TypeId} (h : w.heap[g]? = some (.cells #[a, b] t (0, 0))) (u v : Value) : ((w.setCell ⟨g, 0, none⟩ u).setCell ⟨g, 1, none⟩ v).heap[g]? = some (.cells #[u, v] t (0, 0)) := by
  simp [World.setCell, Array.getElem?_modify, h]
theorem put_far {w : World} {g k : Nat} {o : Option Obj} (h : w.heap[k]? = o) (hne : g ≠ k) (u v : Value) : ((w.setCell ⟨g, 0, none⟩ u).setCell ⟨g, 1, none⟩ v).heap[k]? = o := by
  rw [Below.heap_setCell _ _ _ _ (by show k ≠ g; omega), Below.heap_setCell _ _ _ _ (by show k ≠ g; omega)]
  exact h
theorem Box3.set0 {p q : Value} (h : Box3 w0 t #[p, q] y z b0 b1 b2 W) (u v : Value) : Box3 w0 t #[u, v] y z b0 b1 b2 ((W.setCell ⟨b0, 0, none⟩ u).setCell ⟨b0, 1, none⟩ v) :=
  ⟨bw_set (bw_set h.below h.l0 u) h.l0 v, put_two h.h0 u v, put_far h.h1 h.n01 u v, put_far h.h2 h.n02 u v, h.n01, h.n02, h.n12, h.l0, h.l1, h.l2⟩
theorem Box3.set1 {p q : Value} (h : Box3 w0 t x #[p, q] z b0 b1 b2 W) (u v : Value) : Box3 w0 t x #[u, v] z b0 b1 b2 ((W.setCell ⟨b1, 0, none⟩ u).setCell ⟨b1, 1, none⟩ v) :=
  ⟨bw_set (bw_set h.below h.l1 u) h.l1 v, put_far h.h0 h.n01.symm u v, put_two h.h1 u v, put_far h.h2 h.n12 u v, h.n01, h.n02, h.n12, h.l0, h.l1, h.l2⟩
theorem Box3.set2 {p q : Value} (h : Box3 w0 t x y #[p, q] b0 b1 b2 W) (u v : Value) : Box3 w0 t x y #[u, v] b0 b1 b2 ((W.setCell ⟨b2, 0, none⟩ u).setCell ⟨b2, 1, none⟩ v) :=
  ⟨bw_set (bw_set h.below h.l2 u) h.l2 v, put_far h.h0 h.n02.symm u v, put_far h.h1 h.n12.symm u v, put_two h.h2 u v, h.n01, h.n02, h.n12, h.l0, h.l1, h.l2⟩
end
def clN (xs : List Sup) (r : R2) (gs : List R2) (p : Int) : Int := chordN xs p * (2 * r.b) * grD gs p - r.a * bendX xs p * spanL xs p * grD gs p - grN gs p * spanL xs p * (2 * r.b)
def clD (xs : List Sup) (r : R2) (gs : List R2) (p : Int) : Int := spanL xs p * (2 * r.b) * grD gs p
theorem cl_bd {C L X G D a b : Int} (c1 : 0 ≤ C) (c2 : C ≤ 12000000) (l1 : 1 ≤ L) (l2 : L ≤ 3000) (x1 : 0 ≤ X) (x2 : X ≤ 9000000) (g1 : 0 ≤ G) (g2 : G ≤ 12000000) (d1 : 1 ≤ D) (d2 : D ≤ 3000) (a1 : 1 ≤ a) (a2 : a ≤ 200) (b1 : 1 ≤ b) (b2 : b ≤ 100000) :
    ((0 ≤ C * (2 * b) ∧ C * (2 * b) ≤ 2400000000000) ∧ (0 ≤ C * (2 * b) * D ∧ C * (2 * b) * D ≤ 7200000000000000) ∧ (0 ≤ a * X * L ∧ a * X * L ≤ 5400000000000) ∧ (0 ≤ a * X * L * D ∧ a * X * L * D ≤ 16200000000000000) ∧
    (0 ≤ G * L ∧ G * L ≤ 36000000000) ∧ (0 ≤ G * L * (2 * b) ∧ G * L * (2 * b) ≤ 7200000000000000) ∧ (1 ≤ L * (2 * b) ∧ L * (2 * b) ≤ 600000000) ∧ (1 ≤ L * (2 * b) * D ∧ L * (2 * b) * D ≤ 1800000000000)) := by
  have m0 := mul_bd (a := a) (b := X) (A := 200) (B := 9000000) (by omega) a2 x1 x2
  have m1 := mul_bd (a := C) (b := 2 * b) (A := 12000000) (B := 200000) c1 c2 (by omega) (by omega)
  have m2 := mul_bd (a := C * (2 * b)) (b := D) (A := 2400000000000) (B := 3000) m1.1 (by omega) (by omega) d2
  have m3 := mul_bd (a := a * X) (b := L) (A := 1800000000) (B := 3000) m0.1 (by omega) (by omega) l2
  have m4 := mul_bd (a := a * X * L) (b := D) (A := 5400000000000) (B := 3000) m3.1 (by omega) (by omega) d2
  have m5 := mul_bd (a := G) (b := L) (A := 12000000) (B := 3000) g1 g2 (by omega) l2
  have m6 := mul_bd (a := G * L) (b := 2 * b) (A := 36000000000) (B := 200000) m5.1 (by omega) (by omega) (by omega)
  have m7 := mul_bd (a := L) (b := 2 * b) (A := 3000) (B := 200000) (by omega) l2 (by omega) (by omega)
  have m8 := one_le_mul (a := L) (b := 2 * b) l1 (by omega)
  have m9 := mul_bd (a := L * (2 * b)) (b := D) (A := 600000000) (B := 3000) (by omega) (by omega) (by omega) d2
  have m10 := one_le_mul (a := L * (2 * b)) (b := D) m8 d1
  refine ⟨⟨m1.1, by omega⟩, ⟨m2.1, by omega⟩, ⟨m3.1, by omega⟩, ⟨m4.1, by omega⟩, ⟨m5.1, by omega⟩, ⟨m6.1, by omega⟩, ⟨m8, by omega⟩, ⟨m10, by omega⟩⟩
theorem Gv.onB {P : Program} {f : FuncId} {args : Array Value} {w0 W : World} {v : Value} (h : Gv P f args W v) (hb : Below w0.heap.size w0 W) {R : Ending → World → Prop} (k : ∀ x : Lat w0, R (.returned v) (later w0 x)) : Calls P f args W R :=
  Calls.mono h fun e w' ⟨he, hb'⟩ => by
    subst he
    obtain ⟨x, rfl⟩ := exists_later (bw_trans hb hb')
    exact k x
theorem gv_agg2 {P : Program} {f : FuncId} {args : Array Value} {w : World} {a b a' b' : Int} (h : Gv P f args w (.agg #[.int .i64 a, .int .i64 b])) (ha : a = a') (hb : b = b') : Gv P f args w (.agg #[.int .i64 a', .int .i64 b']) := by
  subst ha; subst hb; exact h
set_option maxHeartbeats 4000000 in
theorem clearanceAt_any (g off n c : Nat) (xs : List Sup) (r : R2) (g2 off2 m c2 : Nat) (gs : List R2) (p : Int) (w : World) (hs : SSup w g off n xs) (hn : n ≤ 1048576) (ht : SR2 w g2 off2 m gs) (hm : m ≤ 1048576) (ho : onLine xs p = true) (hr : isRope r = true) (hG : groundOk xs gs = true) :
    Gv Try.prog 55 #[.slice (some ⟨g, off, none⟩) n c, r.v, .slice (some ⟨g2, off2, none⟩) m c2, .int .i64 p] w (.agg #[.int .i64 (redN (clN xs r gs p) (clD xs r gs p)), .int .i64 (redD (clN xs r gs p) (clD xs r gs p))]) := by
  unfold Gv clN clD R2.v
  have hG1 := ground_at hG (onLine_t ho).2.2.1 (onLine_t ho).2.2.2
  obtain ⟨⟨a1, a2⟩, ⟨b1, b2⟩⟩ := rope_bd hr
  obtain ⟨c1, c2'⟩ := chordN_bd ho
  obtain ⟨s1, s2⟩ := spanL_bd ho
  obtain ⟨x1, x2⟩ := bendX_bd ho
  obtain ⟨g1, g2'⟩ := grN_bd hG1
  obtain ⟨d1, d2⟩ := grD_bd hG1
  have hcC : Hid (∀ w, SSup w g off n xs → Gv Try.prog 64 #[.slice (some ⟨g, off, none⟩) n c, .int .i64 p] w (.agg #[.int .i64 (chordN xs p), .int .i64 (spanL xs p)])) := Lib.hid fun w h => chordAt_any g off n c xs p w h hn ho
  have hcS : Hid (∀ w, SSup w g off n xs → Gv Try.prog 53 #[.slice (some ⟨g, off, none⟩) n c, .agg #[.int .i64 r.a, .int .i64 r.b], .int .i64 p] w (.agg #[.int .i64 (r.a * bendX xs p), .int .i64 (2 * r.b)])) := Lib.hid fun w h => sagAt_any g off n c xs r p w h hn ho hr
  have hcG : Hid (∀ w, SR2 w g2 off2 m gs → Gv Try.prog 65 #[.slice (some ⟨g2, off2, none⟩) m c2, .int .i64 p] w (.agg #[.int .i64 (grN gs p), .int .i64 (grD gs p)])) := Lib.hid fun w h => groundAt_any g2 off2 m c2 gs p w h hm hG1
  clear hG1 ho hr hG
  generalize chordN xs p = C at *
  generalize spanL xs p = L at *
  generalize bendX xs p = X at *
  generalize grN gs p = G at *
  generalize grD gs p = D at *
  obtain ⟨⟨m1, m2⟩, ⟨m3, m4⟩, ⟨m5, m6⟩, ⟨m7, m8⟩, ⟨m9, m10⟩, ⟨m11, m12⟩, ⟨m13, m14⟩, ⟨m15, m16⟩⟩ := cl_bd c1 c2' s1 s2 x1 x2 g1 g2' d1 d2 a1 a2 b1 b2
  have v1 : IntKind.i64.wrap (C * (2 * r.b)) = C * (2 * r.b) := Go.IntWalk.i64_in _ (by omega)
  have v2 : IntKind.i64.wrap (C * (2 * r.b) * D) = C * (2 * r.b) * D := Go.IntWalk.i64_in _ (by omega)
  have v3 : IntKind.i64.wrap (r.a * X * L) = r.a * X * L := Go.IntWalk.i64_in _ (by omega)
  have v4 : IntKind.i64.wrap (r.a * X * L * D) = r.a * X * L * D := Go.IntWalk.i64_in _ (by omega)
  have v5 : IntKind.i64.wrap (G * L) = G * L := Go.IntWalk.i64_in _ (by omega)
  have v6 : IntKind.i64.wrap (G * L * (2 * r.b)) = G * L * (2 * r.b) := Go.IntWalk.i64_in _ (by omega)
  have v7 : IntKind.i64.wrap (L * (2 * r.b)) = L * (2 * r.b) := Go.IntWalk.i64_in _ (by omega)
  have v8 : IntKind.i64.wrap (L * (2 * r.b) * D) = L * (2 * r.b) * D := Go.IntWalk.i64_in _ (by omega)
  have v9 : IntKind.i64.wrap (C * (2 * r.b) * D - r.a * X * L * D) = C * (2 * r.b) * D - r.a * X * L * D := Go.IntWalk.i64_in _ (by omega)
  have v10 : IntKind.i64.wrap (C * (2 * r.b) * D - r.a * X * L * D - G * L * (2 * r.b)) = C * (2 * r.b) * D - r.a * X * L * D - G * L * (2 * r.b) := Go.IntWalk.i64_in _ (by omega)
  have hcL : Hid (∀ w, Gv Try.prog 52 #[.int .i64 (C * (2 * r.b) * D - r.a * X * L * D - G * L * (2 * r.b)), .int .i64 (L * (2 * r.b) * D)] w _) := Lib.hid fun w => lowest_any (C * (2 * r.b) * D - r.a * X * L * D - G * L * (2 * r.b)) (L * (2 * r.b) * D) m15 (by omega) (by omega) (by omega) w
  clear m1 m2 m3 m4 m5 m6 m7 m8 m9 m10 m11 m12 m13 m14 m15 m16 c1 c2' s1 s2 x1 x2 g1 g2' d1 d2 a1 a2 b1 b2
  go_enter Try.func55, Try.ntmps55
  go_wp2_with fail
  (refine wp_region_R (Below (((w.alloc (.cells #[.int .i64 r.a, .int .i64 r.b] 25)).alloc (.cells #[.int .i64 0, .int .i64 0] 74))).heap.size (((w.alloc (.cells #[.int .i64 r.a, .int .i64 r.b] 25)).alloc (.cells #[.int .i64 0, .int .i64 0] 74)))) (by kernel_rfl) ?_)
  ((refine stepR_read (i := 0) (by kernel_rfl) (by kernel_rfl) rfl (by repeat (with_reducible first | exact Below.refl _ _ | refine bw_later ?_ _ | refine bw_alloc ?_ _ | refine bw_drew ?_ | refine bw_set ?_ (Nat.le_refl _) _ | refine bw_set ?_ ?_ _ | exact Nat.le_refl _ | exact later_size _ _ | refine Nat.le_trans ?_ (later_size _ _) | refine Nat.le_trans ?_ (size_alloc_le _ _) | refine Nat.le_trans ?_ (Nat.le_add_right _ _))) rfl (fun K hK => ?_); apply Exists.intro; refine ⟨fun x => ?_, ?_⟩; focus (go_simp; (try go_bits); (try go_simp); (try rfl))); (go_simp; (try go_bits); refine hK _ ?_; clear hK K); (refine stepR_read (i := 1) (by kernel_rfl) (by kernel_rfl) rfl (by repeat (with_reducible first | exact Below.refl _ _ | refine bw_later ?_ _ | refine bw_alloc ?_ _ | refine bw_drew ?_ | refine bw_set ?_ (Nat.le_refl _) _ | refine bw_set ?_ ?_ _ | exact Nat.le_refl _ | exact later_size _ _ | refine Nat.le_trans ?_ (later_size _ _) | refine Nat.le_trans ?_ (size_alloc_le _ _) | refine Nat.le_trans ?_ (Nat.le_add_right _ _))) rfl (fun K hK => ?_); apply Exists.intro; refine ⟨fun x => ?_, ?_⟩; focus (go_simp; (try go_bits); (try go_simp); (try rfl))); (go_simp; (try go_bits); refine hK _ ?_; clear hK K))
  (refine stepR_call (i := 2) (by kernel_rfl) (by kernel_rfl) rfl (by repeat (with_reducible first | exact Below.refl _ _ | refine bw_later ?_ _ | refine bw_alloc ?_ _ | refine bw_drew ?_ | refine bw_set ?_ (Nat.le_refl _) _ | refine bw_set ?_ ?_ _ | exact Nat.le_refl _ | exact later_size _ _ | refine Nat.le_trans ?_ (later_size _ _) | refine Nat.le_trans ?_ (size_alloc_le _ _) | refine Nat.le_trans ?_ (Nat.le_add_right _ _))) rfl (fun K hK => ?_); refine ⟨64, _, fun x => by go_simp; rfl, ?_⟩; refine ⟨_, fun x => hcC.out _ (((hs.alloc _).alloc _).later x), ?_⟩; go_simp; refine hK _ ?_; clear hK K)
  ((refine stepR_read (i := 3) (by kernel_rfl) (by kernel_rfl) rfl (by repeat (with_reducible first | exact Below.refl _ _ | refine bw_later ?_ _ | refine bw_alloc ?_ _ | refine bw_drew ?_ | refine bw_set ?_ (Nat.le_refl _) _ | refine bw_set ?_ ?_ _ | exact Nat.le_refl _ | exact later_size _ _ | refine Nat.le_trans ?_ (later_size _ _) | refine Nat.le_trans ?_ (size_alloc_le _ _) | refine Nat.le_trans ?_ (Nat.le_add_right _ _))) rfl (fun K hK => ?_); apply Exists.intro; refine ⟨fun x => ?_, ?_⟩; focus (go_simp; (try go_bits); (try go_simp); (try rfl))); (go_simp; (try go_bits); refine hK _ ?_; clear hK K); (refine stepR_read (i := 4) (by kernel_rfl) (by kernel_rfl) rfl (by repeat (with_reducible first | exact Below.refl _ _ | refine bw_later ?_ _ | refine bw_alloc ?_ _ | refine bw_drew ?_ | refine bw_set ?_ (Nat.le_refl _) _ | refine bw_set ?_ ?_ _ | exact Nat.le_refl _ | exact later_size _ _ | refine Nat.le_trans ?_ (later_size _ _) | refine Nat.le_trans ?_ (size_alloc_le _ _) | refine Nat.le_trans ?_ (Nat.le_add_right _ _))) rfl (fun K hK => ?_); apply Exists.intro; refine ⟨fun x => ?_, ?_⟩; focus (go_simp; (try go_bits); (try go_simp); (try rfl))); (go_simp; (try go_bits); refine hK _ ?_; clear hK K); (refine stepR_read (i := 5) (by kernel_rfl) (by kernel_rfl) rfl (by repeat (with_reducible first | exact Below.refl _ _ | refine bw_later ?_ _ | refine bw_alloc ?_ _ | refine bw_drew ?_ | refine bw_set ?_ (Nat.le_refl _) _ | refine bw_set ?_ ?_ _ | exact Nat.le_refl _ | exact later_size _ _ | refine Nat.le_trans ?_ (later_size _ _) | refine Nat.le_trans ?_ (size_alloc_le _ _) | refine Nat.le_trans ?_ (Nat.le_add_right _ _))) rfl (fun K hK => ?_); apply Exists.intro; refine ⟨fun x => ?_, ?_⟩; focus (go_simp; (try go_bits); (try go_simp); (try rfl))); (go_simp; (try go_bits); refine hK _ ?_; clear hK K))
  (refine stepR_call (i := 6) (by kernel_rfl) (by kernel_rfl) rfl (by repeat (with_reducible first | exact Below.refl _ _ | refine bw_later ?_ _ | refine bw_alloc ?_ _ | refine bw_drew ?_ | refine bw_set ?_ (Nat.le_refl _) _ | refine bw_set ?_ ?_ _ | exact Nat.le_refl _ | exact later_size _ _ | refine Nat.le_trans ?_ (later_size _ _) | refine Nat.le_trans ?_ (size_alloc_le _ _) | refine Nat.le_trans ?_ (Nat.le_add_right _ _))) rfl (fun K hK => ?_); refine ⟨53, _, fun x => by go_simp; rfl, ?_⟩; refine ⟨_, fun x => hcS.out _ (((hs.alloc _).alloc _).later x), ?_⟩; go_simp; refine hK _ ?_; clear hK K)
  ((refine stepR_read (i := 7) (by kernel_rfl) (by kernel_rfl) rfl (by repeat (with_reducible first | exact Below.refl _ _ | refine bw_later ?_ _ | refine bw_alloc ?_ _ | refine bw_drew ?_ | refine bw_set ?_ (Nat.le_refl _) _ | refine bw_set ?_ ?_ _ | exact Nat.le_refl _ | exact later_size _ _ | refine Nat.le_trans ?_ (later_size _ _) | refine Nat.le_trans ?_ (size_alloc_le _ _) | refine Nat.le_trans ?_ (Nat.le_add_right _ _))) rfl (fun K hK => ?_); apply Exists.intro; refine ⟨fun x => ?_, ?_⟩; focus (go_simp; (try go_bits); (try go_simp); (try rfl))); (go_simp; (try go_bits); refine hK _ ?_; clear hK K); (refine stepR_read (i := 8) (by kernel_rfl) (by kernel_rfl) rfl (by repeat (with_reducible first | exact Below.refl _ _ | refine bw_later ?_ _ | refine bw_alloc ?_ _ | refine bw_drew ?_ | refine bw_set ?_ (Nat.le_refl _) _ | refine bw_set ?_ ?_ _ | exact Nat.le_refl _ | exact later_size _ _ | refine Nat.le_trans ?_ (later_size _ _) | refine Nat.le_trans ?_ (size_alloc_le _ _) | refine Nat.le_trans ?_ (Nat.le_add_right _ _))) rfl (fun K hK => ?_); apply Exists.intro; refine ⟨fun x => ?_, ?_⟩; focus (go_simp; (try go_bits); (try go_simp); (try rfl))); (go_simp; (try go_bits); refine hK _ ?_; clear hK K))
  (refine stepR_call (i := 9) (by kernel_rfl) (by kernel_rfl) rfl (by repeat (with_reducible first | exact Below.refl _ _ | refine bw_later ?_ _ | refine bw_alloc ?_ _ | refine bw_drew ?_ | refine bw_set ?_ (Nat.le_refl _) _ | refine bw_set ?_ ?_ _ | exact Nat.le_refl _ | exact later_size _ _ | refine Nat.le_trans ?_ (later_size _ _) | refine Nat.le_trans ?_ (size_alloc_le _ _) | refine Nat.le_trans ?_ (Nat.le_add_right _ _))) rfl (fun K hK => ?_); refine ⟨65, _, fun x => by go_simp; rfl, ?_⟩; refine ⟨_, fun x => hcG.out _ (((ht.alloc _).alloc _).later x), ?_⟩; go_simp; refine hK _ ?_; clear hK K)
  refine stepR_alloc3 (i := 10) (j := 11) (k := 12) (di := 9) (dj := 10) (dk := 11) (z := #[.int .i64 0, .int .i64 0]) (t := 74) (by kernel_rfl) (by kernel_rfl) (by kernel_rfl) (by kernel_rfl) (by kernel_rfl) (by kernel_rfl) (by kernel_rfl) rfl rfl rfl (by decide) (by decide) (by decide) rfl rfl rfl (by decide) (by decide) (by decide) ⟨fun ys => rfl, fun a w => by go_simp; rfl⟩ ⟨fun ys => rfl, fun a w => by go_simp; rfl⟩ ⟨fun ys => rfl, fun a w => by go_simp; rfl⟩ (by repeat (with_reducible first | exact Below.refl _ _ | refine bw_later ?_ _ | refine bw_alloc ?_ _ | refine bw_drew ?_ | refine bw_set ?_ (Nat.le_refl _) _ | refine bw_set ?_ ?_ _ | exact Nat.le_refl _ | exact later_size _ _ | refine Nat.le_trans ?_ (later_size _ _) | refine Nat.le_trans ?_ (size_alloc_le _ _) | refine Nat.le_trans ?_ (Nat.le_add_right _ _))) (fun K hK b9 b10 b11 W T0 => ?_)
  unfold ptr0
  go_simp
  refine hK _ _ ?_
  clear hK K
  have T := T0.box
  clear T0
  refine stepR_one (i0 := 13) (by kernel_rfl) rfl T.below (fun y K hK => ?_)
  have T1 := T.later y
  clear T
  generalize later W y = W1 at T1 ⊢
  have e00 := T1.c0 0; have e01 := T1.c0 1; have e10 := T1.c1 0; have e11 := T1.c1 1; have e20 := T1.c2 0; have e21 := T1.c2 1; have f0 := T1.f0; have l0 := T1.lt0; have f1 := T1.f1; have l1 := T1.lt1; have f2 := T1.f2; have l2 := T1.lt2
  simp only [List.getElem?_toArray, List.getElem?_cons_zero, List.getElem?_cons_succ] at e00 e01 e10 e11 e20 e21
  go_wp2
  (try refine hK _ _ ?_)
  (try clear hK K)
  clear e00 e01 e10 e11 e20 e21 f0 f1 f2 l0 l1 l2
  have T := T1.set0 (.int .i64 (C)) (.int .i64 (L))
  clear T1 y W
  generalize ((W1.setCell ⟨b9, 0, none⟩ (.int .i64 (C))).setCell ⟨b9, 1, none⟩ (.int .i64 (L))) = W at T ⊢
  clear W1
  refine stepR_one (i0 := 14) (by kernel_rfl) rfl T.below (fun y K hK => ?_)
  have T1 := T.later y
  clear T
  generalize later W y = W1 at T1 ⊢
  have e00 := T1.c0 0; have e01 := T1.c0 1; have e10 := T1.c1 0; have e11 := T1.c1 1; have e20 := T1.c2 0; have e21 := T1.c2 1; have f0 := T1.f0; have l0 := T1.lt0; have f1 := T1.f1; have l1 := T1.lt1; have f2 := T1.f2; have l2 := T1.lt2
  simp only [List.getElem?_toArray, List.getElem?_cons_zero, List.getElem?_cons_succ] at e00 e01 e10 e11 e20 e21
  go_wp2
  (try refine hK _ _ ?_)
  (try clear hK K)
  clear e00 e01 e10 e11 e20 e21 f0 f1 f2 l0 l1 l2
  have T := T1.set1 (.int .i64 (r.a * X)) (.int .i64 (2 * r.b))
  clear T1 y W
  generalize ((W1.setCell ⟨b10, 0, none⟩ (.int .i64 (r.a * X))).setCell ⟨b10, 1, none⟩ (.int .i64 (2 * r.b))) = W at T ⊢
  clear W1
  refine stepR_one (i0 := 15) (by kernel_rfl) rfl T.below (fun y K hK => ?_)
  have T1 := T.later y
  clear T
  generalize later W y = W1 at T1 ⊢
  have e00 := T1.c0 0; have e01 := T1.c0 1; have e10 := T1.c1 0; have e11 := T1.c1 1; have e20 := T1.c2 0; have e21 := T1.c2 1; have f0 := T1.f0; have l0 := T1.lt0; have f1 := T1.f1; have l1 := T1.lt1; have f2 := T1.f2; have l2 := T1.lt2
  simp only [List.getElem?_toArray, List.getElem?_cons_zero, List.getElem?_cons_succ] at e00 e01 e10 e11 e20 e21
  go_wp2
  (try refine hK _ _ ?_)
  (try clear hK K)
  clear e00 e01 e10 e11 e20 e21 f0 f1 f2 l0 l1 l2
  have T := T1.set2 (.int .i64 (G)) (.int .i64 (D))
  clear T1 y W
  generalize ((W1.setCell ⟨b11, 0, none⟩ (.int .i64 (G))).setCell ⟨b11, 1, none⟩ (.int .i64 (D))) = W at T ⊢
  clear W1
  refine stepR_end (by kernel_rfl) T.below (fun y => ?_)
  have T1 := T.later y
  clear T
  generalize later W y = W1 at T1 ⊢
  have e00 := T1.c0 0; have e01 := T1.c0 1; have e10 := T1.c1 0; have e11 := T1.c1 1; have e20 := T1.c2 0; have e21 := T1.c2 1; have f0 := T1.f0; have l0 := T1.lt0; have f1 := T1.f1; have l1 := T1.lt1; have f2 := T1.f2; have l2 := T1.lt2
  simp only [List.getElem?_toArray, List.getElem?_cons_zero, List.getElem?_cons_succ] at e00 e01 e10 e11 e20 e21
  have q1 : w.heap.size + 1 < ((w.alloc (.cells #[.int .i64 r.a, .int .i64 r.b] 25)).alloc (.cells #[.int .i64 0, .int .i64 0] 74)).heap.size := by simp
  have R0 : W1.cell? ⟨w.heap.size + 1, 0, none⟩ = some (.int .i64 0) := by
    rw [T1.below.cell (p := ⟨w.heap.size + 1, 0, none⟩) q1]
    go_simp
  have R1 : W1.cell? ⟨w.heap.size + 1, 1, none⟩ = some (.int .i64 0) := by
    rw [T1.below.cell (p := ⟨w.heap.size + 1, 1, none⟩) q1]
    go_simp
  have Rf : ∀ i, W1.frozen? ⟨w.heap.size + 1, i, none⟩ = false := fun i => by
    rw [T1.below.frozen (p := ⟨w.heap.size + 1, i, none⟩) q1]
    go_simp
  have RH0 : W1.heap[w.heap.size + 1]? = some (.cells #[.int .i64 0, .int .i64 0] 74 (0, 0)) := by
    rw [T1.below.block _ q1]
    have := heap_alloc_new (w.alloc (.cells #[.int .i64 r.a, .int .i64 r.b] 25)) (.cells #[.int .i64 0, .int .i64 0] 74)
    rwa [show (w.alloc (.cells #[.int .i64 r.a, .int .i64 r.b] 25)).heap.size = w.heap.size + 1 by simp] at this
  have RH := Lib.hid RH0
  clear RH0
  have Rl : w.heap.size + 1 < W1.heap.size := Nat.lt_of_lt_of_le q1 T1.below.size
  have hbw : Below w.heap.size w W1 := bw_trans (a := w) (by repeat (with_reducible first | exact Below.refl _ _ | refine bw_later ?_ _ | refine bw_alloc ?_ _ | refine bw_drew ?_ | refine bw_set ?_ (Nat.le_refl _) _ | refine bw_set ?_ ?_ _ | exact Nat.le_refl _ | exact later_size _ _ | refine Nat.le_trans ?_ (later_size _ _) | refine Nat.le_trans ?_ (size_alloc_le _ _) | refine Nat.le_trans ?_ (Nat.le_add_right _ _))) T1.below
  clear q1 T1
  go_wp2_with (go_at_call 52; (first | refine (hcL.out _).onL ?_ | refine (hcL.out _).on ?_); intro xq)
  have F := put_two (((later_below W1 xq).block _ Rl).trans RH.out) (.int .i64 (redN (C * (2 * r.b) * D - r.a * X * L * D - G * L * (2 * r.b)) (L * (2 * r.b) * D))) (.int .i64 (redD (C * (2 * r.b) * D - r.a * X * L * D - G * L * (2 * r.b)) (L * (2 * r.b) * D)))
  have k0 := cell_of_row _ _ 0 _ _ (0, 0) F
  have k1 := cell_of_row _ _ 1 _ _ (0, 0) F
  simp only [List.getElem?_toArray, List.getElem?_cons_zero, List.getElem?_cons_succ] at k0 k1
  exact bodyPost_ret (v := .agg #[.int .i64 (redN (C * (2 * r.b) * D - r.a * X * L * D - G * L * (2 * r.b)) (L * (2 * r.b) * D)), .int .i64 (redD (C * (2 * r.b) * D - r.a * X * L * D - G * L * (2 * r.b)) (L * (2 * r.b) * D))]) (by simp [results, go_sem, k0, k1]) rfl ⟨rfl, by repeat (with_reducible first | exact hbw | refine bw_later ?_ _ | refine bw_set ?_ (Nat.le_succ _) _)⟩
def clearF (xs : List Sup) (r : R2) (gs : List R2) (p : Int) : Int × Int × Bool := if onLine xs p && (isRope r && groundOk xs gs) then (redN (clN xs r gs p) (clD xs r gs p), redD (clN xs r gs p) (clD xs r gs p), true) else (0, 0, false)
theorem i_ClearanceAt_any (g off n c : Nat) (xs : List Sup) (r : R2) (g2 off2 m c2 : Nat) (gs : List R2) (p : Int) (w : World) (hs : SSup w g off n xs) (hn : n ≤ 1048576) (ht : SR2 w g2 off2 m gs) (hm : m ≤ 1048576) : Gv Try.prog 34 #[.slice (some ⟨g, off, none⟩) n c, r.v, .slice (some ⟨g2, off2, none⟩) m c2, .int .i64 p] w (.tuple #[.int .i64 ((clearF xs r gs p)).1, .int .i64 (((clearF xs r gs p)).2).1, .bool (((clearF xs r gs p)).2).2]) := by
  unfold Gv
  cases h0 : onLine xs p
  · have hfin := Lib.hid (show clearF xs r gs p = (0, 0, false) by simp [clearF, h0])
    unfold R2.v
    go_enter Try.func34, Try.ntmps34
    go_wp2_with (first | (go_at_call 49; (first | refine (i_on_any g off n c xs p _ (by first | exact hs | exact hs.later _ | exact hs.alloc _ | exact (hs.alloc _).later _ | exact (hs.later _).alloc _ | exact ((hs.later _).alloc _).later _ | exact ((hs.alloc _).later _).alloc _ | exact (hs.alloc _).alloc _ | exact ((hs.alloc _).alloc _).later _ | exact (((hs.alloc _).later _).alloc _).later _) hn).onL ?_ | refine (i_on_any g off n c xs p _ (by first | exact hs | exact hs.later _ | exact hs.alloc _ | exact (hs.alloc _).later _ | exact (hs.later _).alloc _ | exact ((hs.later _).alloc _).later _ | exact ((hs.alloc _).later _).alloc _ | exact (hs.alloc _).alloc _ | exact ((hs.alloc _).alloc _).later _ | exact (((hs.alloc _).later _).alloc _).later _) hn).on ?_); intro xq) | (go_at_call 14; (first | refine (impl_IsRope_any r _).onL ?_ | refine (impl_IsRope_any r _).on ?_); intro xq) | (go_at_call 20; (first | refine (i_ground_any g off n c xs g2 off2 m c2 gs _ (by first | exact hs | exact hs.later _ | exact hs.alloc _ | exact (hs.alloc _).later _ | exact (hs.later _).alloc _ | exact ((hs.later _).alloc _).later _ | exact ((hs.alloc _).later _).alloc _ | exact (hs.alloc _).alloc _ | exact ((hs.alloc _).alloc _).later _ | exact (((hs.alloc _).later _).alloc _).later _) hn (by first | exact ht | exact ht.later _ | exact ht.alloc _ | exact (ht.alloc _).later _ | exact (ht.later _).alloc _ | exact ((ht.later _).alloc _).later _ | exact ((ht.alloc _).later _).alloc _ | exact (ht.alloc _).alloc _ | exact ((ht.alloc _).alloc _).later _ | exact (((ht.alloc _).later _).alloc _).later _) hm).onL ?_ | refine (i_ground_any g off n c xs g2 off2 m c2 gs _ (by first | exact hs | exact hs.later _ | exact hs.alloc _ | exact (hs.alloc _).later _ | exact (hs.later _).alloc _ | exact ((hs.later _).alloc _).later _ | exact ((hs.alloc _).later _).alloc _ | exact (hs.alloc _).alloc _ | exact ((hs.alloc _).alloc _).later _ | exact (((hs.alloc _).later _).alloc _).later _) hn (by first | exact ht | exact ht.later _ | exact ht.alloc _ | exact (ht.alloc _).later _ | exact (ht.later _).alloc _ | exact ((ht.later _).alloc _).later _ | exact ((ht.alloc _).later _).alloc _ | exact (ht.alloc _).alloc _ | exact ((ht.alloc _).alloc _).later _ | exact (((ht.alloc _).later _).alloc _).later _) hm).on ?_); intro xq) | (go_at_call 55; (first | refine (clearanceAt_any g off n c xs r g2 off2 m c2 gs p _ (by first | exact hs | exact hs.later _ | exact hs.alloc _ | exact (hs.alloc _).later _ | exact (hs.later _).alloc _ | exact ((hs.later _).alloc _).later _ | exact ((hs.alloc _).later _).alloc _ | exact (hs.alloc _).alloc _ | exact ((hs.alloc _).alloc _).later _ | exact (((hs.alloc _).later _).alloc _).later _) hn (by first | exact ht | exact ht.later _ | exact ht.alloc _ | exact (ht.alloc _).later _ | exact (ht.later _).alloc _ | exact ((ht.later _).alloc _).later _ | exact ((ht.alloc _).later _).alloc _ | exact (ht.alloc _).alloc _ | exact ((ht.alloc _).alloc _).later _ | exact (((ht.alloc _).later _).alloc _).later _) hm h0 h1 h2).onL ?_ | refine (clearanceAt_any g off n c xs r g2 off2 m c2 gs p _ (by first | exact hs | exact hs.later _ | exact hs.alloc _ | exact (hs.alloc _).later _ | exact (hs.later _).alloc _ | exact ((hs.later _).alloc _).later _ | exact ((hs.alloc _).later _).alloc _ | exact (hs.alloc _).alloc _ | exact ((hs.alloc _).alloc _).later _ | exact (((hs.alloc _).later _).alloc _).later _) hn (by first | exact ht | exact ht.later _ | exact ht.alloc _ | exact (ht.alloc _).later _ | exact (ht.later _).alloc _ | exact ((ht.later _).alloc _).later _ | exact ((ht.alloc _).later _).alloc _ | exact (ht.alloc _).alloc _ | exact ((ht.alloc _).alloc _).later _ | exact (((ht.alloc _).later _).alloc _).later _) hm h0 h1 h2).on ?_); intro xq) | ((with_reducible refine wp_region_later (by kernel_rfl) (by kernel_rfl) ?_); (repeat (go_big_quiet_step (fail))); refine wpQuiet_nil ?_; rintro _ ⟨xr, rfl⟩))
    all_goals (go_ret3; exact ⟨by rw [hfin.out]; try rfl, (by repeat (with_reducible first | exact Below.refl _ _ | refine bw_later ?_ _ | refine bw_alloc ?_ _ | refine bw_drew ?_ | refine bw_set ?_ (Nat.le_refl _) _ | refine bw_set ?_ ?_ _ | exact Nat.le_refl _ | exact later_size _ _ | refine Nat.le_trans ?_ (later_size _ _) | refine Nat.le_trans ?_ (size_alloc_le _ _) | refine Nat.le_trans ?_ (Nat.le_add_right _ _)))⟩)
  cases h1 : isRope r
  · have hfin := Lib.hid (show clearF xs r gs p = (0, 0, false) by simp [clearF, h0, h1])
    unfold R2.v
    go_enter Try.func34, Try.ntmps34
    go_wp2_with (first | (go_at_call 49; (first | refine (i_on_any g off n c xs p _ (by first | exact hs | exact hs.later _ | exact hs.alloc _ | exact (hs.alloc _).later _ | exact (hs.later _).alloc _ | exact ((hs.later _).alloc _).later _ | exact ((hs.alloc _).later _).alloc _ | exact (hs.alloc _).alloc _ | exact ((hs.alloc _).alloc _).later _ | exact (((hs.alloc _).later _).alloc _).later _) hn).onL ?_ | refine (i_on_any g off n c xs p _ (by first | exact hs | exact hs.later _ | exact hs.alloc _ | exact (hs.alloc _).later _ | exact (hs.later _).alloc _ | exact ((hs.later _).alloc _).later _ | exact ((hs.alloc _).later _).alloc _ | exact (hs.alloc _).alloc _ | exact ((hs.alloc _).alloc _).later _ | exact (((hs.alloc _).later _).alloc _).later _) hn).on ?_); intro xq) | (go_at_call 14; (first | refine (impl_IsRope_any r _).onL ?_ | refine (impl_IsRope_any r _).on ?_); intro xq) | (go_at_call 20; (first | refine (i_ground_any g off n c xs g2 off2 m c2 gs _ (by first | exact hs | exact hs.later _ | exact hs.alloc _ | exact (hs.alloc _).later _ | exact (hs.later _).alloc _ | exact ((hs.later _).alloc _).later _ | exact ((hs.alloc _).later _).alloc _ | exact (hs.alloc _).alloc _ | exact ((hs.alloc _).alloc _).later _ | exact (((hs.alloc _).later _).alloc _).later _) hn (by first | exact ht | exact ht.later _ | exact ht.alloc _ | exact (ht.alloc _).later _ | exact (ht.later _).alloc _ | exact ((ht.later _).alloc _).later _ | exact ((ht.alloc _).later _).alloc _ | exact (ht.alloc _).alloc _ | exact ((ht.alloc _).alloc _).later _ | exact (((ht.alloc _).later _).alloc _).later _) hm).onL ?_ | refine (i_ground_any g off n c xs g2 off2 m c2 gs _ (by first | exact hs | exact hs.later _ | exact hs.alloc _ | exact (hs.alloc _).later _ | exact (hs.later _).alloc _ | exact ((hs.later _).alloc _).later _ | exact ((hs.alloc _).later _).alloc _ | exact (hs.alloc _).alloc _ | exact ((hs.alloc _).alloc _).later _ | exact (((hs.alloc _).later _).alloc _).later _) hn (by first | exact ht | exact ht.later _ | exact ht.alloc _ | exact (ht.alloc _).later _ | exact (ht.later _).alloc _ | exact ((ht.later _).alloc _).later _ | exact ((ht.alloc _).later _).alloc _ | exact (ht.alloc _).alloc _ | exact ((ht.alloc _).alloc _).later _ | exact (((ht.alloc _).later _).alloc _).later _) hm).on ?_); intro xq) | (go_at_call 55; (first | refine (clearanceAt_any g off n c xs r g2 off2 m c2 gs p _ (by first | exact hs | exact hs.later _ | exact hs.alloc _ | exact (hs.alloc _).later _ | exact (hs.later _).alloc _ | exact ((hs.later _).alloc _).later _ | exact ((hs.alloc _).later _).alloc _ | exact (hs.alloc _).alloc _ | exact ((hs.alloc _).alloc _).later _ | exact (((hs.alloc _).later _).alloc _).later _) hn (by first | exact ht | exact ht.later _ | exact ht.alloc _ | exact (ht.alloc _).later _ | exact (ht.later _).alloc _ | exact ((ht.later _).alloc _).later _ | exact ((ht.alloc _).later _).alloc _ | exact (ht.alloc _).alloc _ | exact ((ht.alloc _).alloc _).later _ | exact (((ht.alloc _).later _).alloc _).later _) hm h0 h1 h2).onL ?_ | refine (clearanceAt_any g off n c xs r g2 off2 m c2 gs p _ (by first | exact hs | exact hs.later _ | exact hs.alloc _ | exact (hs.alloc _).later _ | exact (hs.later _).alloc _ | exact ((hs.later _).alloc _).later _ | exact ((hs.alloc _).later _).alloc _ | exact (hs.alloc _).alloc _ | exact ((hs.alloc _).alloc _).later _ | exact (((hs.alloc _).later _).alloc _).later _) hn (by first | exact ht | exact ht.later _ | exact ht.alloc _ | exact (ht.alloc _).later _ | exact (ht.later _).alloc _ | exact ((ht.later _).alloc _).later _ | exact ((ht.alloc _).later _).alloc _ | exact (ht.alloc _).alloc _ | exact ((ht.alloc _).alloc _).later _ | exact (((ht.alloc _).later _).alloc _).later _) hm h0 h1 h2).on ?_); intro xq) | ((with_reducible refine wp_region_later (by kernel_rfl) (by kernel_rfl) ?_); (repeat (go_big_quiet_step (fail))); refine wpQuiet_nil ?_; rintro _ ⟨xr, rfl⟩))
    all_goals (go_ret3; exact ⟨by rw [hfin.out]; try rfl, (by repeat (with_reducible first | exact Below.refl _ _ | refine bw_later ?_ _ | refine bw_alloc ?_ _ | refine bw_drew ?_ | refine bw_set ?_ (Nat.le_refl _) _ | refine bw_set ?_ ?_ _ | exact Nat.le_refl _ | exact later_size _ _ | refine Nat.le_trans ?_ (later_size _ _) | refine Nat.le_trans ?_ (size_alloc_le _ _) | refine Nat.le_trans ?_ (Nat.le_add_right _ _)))⟩)
  cases h2 : groundOk xs gs
  · have hfin := Lib.hid (show clearF xs r gs p = (0, 0, false) by simp [clearF, h0, h1, h2])
    unfold R2.v
    go_enter Try.func34, Try.ntmps34
    go_wp2_with (first | (go_at_call 49; (first | refine (i_on_any g off n c xs p _ (by first | exact hs | exact hs.later _ | exact hs.alloc _ | exact (hs.alloc _).later _ | exact (hs.later _).alloc _ | exact ((hs.later _).alloc _).later _ | exact ((hs.alloc _).later _).alloc _ | exact (hs.alloc _).alloc _ | exact ((hs.alloc _).alloc _).later _ | exact (((hs.alloc _).later _).alloc _).later _) hn).onL ?_ | refine (i_on_any g off n c xs p _ (by first | exact hs | exact hs.later _ | exact hs.alloc _ | exact (hs.alloc _).later _ | exact (hs.later _).alloc _ | exact ((hs.later _).alloc _).later _ | exact ((hs.alloc _).later _).alloc _ | exact (hs.alloc _).alloc _ | exact ((hs.alloc _).alloc _).later _ | exact (((hs.alloc _).later _).alloc _).later _) hn).on ?_); intro xq) | (go_at_call 14; (first | refine (impl_IsRope_any r _).onL ?_ | refine (impl_IsRope_any r _).on ?_); intro xq) | (go_at_call 20; (first | refine (i_ground_any g off n c xs g2 off2 m c2 gs _ (by first | exact hs | exact hs.later _ | exact hs.alloc _ | exact (hs.alloc _).later _ | exact (hs.later _).alloc _ | exact ((hs.later _).alloc _).later _ | exact ((hs.alloc _).later _).alloc _ | exact (hs.alloc _).alloc _ | exact ((hs.alloc _).alloc _).later _ | exact (((hs.alloc _).later _).alloc _).later _) hn (by first | exact ht | exact ht.later _ | exact ht.alloc _ | exact (ht.alloc _).later _ | exact (ht.later _).alloc _ | exact ((ht.later _).alloc _).later _ | exact ((ht.alloc _).later _).alloc _ | exact (ht.alloc _).alloc _ | exact ((ht.alloc _).alloc _).later _ | exact (((ht.alloc _).later _).alloc _).later _) hm).onL ?_ | refine (i_ground_any g off n c xs g2 off2 m c2 gs _ (by first | exact hs | exact hs.later _ | exact hs.alloc _ | exact (hs.alloc _).later _ | exact (hs.later _).alloc _ | exact ((hs.later _).alloc _).later _ | exact ((hs.alloc _).later _).alloc _ | exact (hs.alloc _).alloc _ | exact ((hs.alloc _).alloc _).later _ | exact (((hs.alloc _).later _).alloc _).later _) hn (by first | exact ht | exact ht.later _ | exact ht.alloc _ | exact (ht.alloc _).later _ | exact (ht.later _).alloc _ | exact ((ht.later _).alloc _).later _ | exact ((ht.alloc _).later _).alloc _ | exact (ht.alloc _).alloc _ | exact ((ht.alloc _).alloc _).later _ | exact (((ht.alloc _).later _).alloc _).later _) hm).on ?_); intro xq) | (go_at_call 55; (first | refine (clearanceAt_any g off n c xs r g2 off2 m c2 gs p _ (by first | exact hs | exact hs.later _ | exact hs.alloc _ | exact (hs.alloc _).later _ | exact (hs.later _).alloc _ | exact ((hs.later _).alloc _).later _ | exact ((hs.alloc _).later _).alloc _ | exact (hs.alloc _).alloc _ | exact ((hs.alloc _).alloc _).later _ | exact (((hs.alloc _).later _).alloc _).later _) hn (by first | exact ht | exact ht.later _ | exact ht.alloc _ | exact (ht.alloc _).later _ | exact (ht.later _).alloc _ | exact ((ht.later _).alloc _).later _ | exact ((ht.alloc _).later _).alloc _ | exact (ht.alloc _).alloc _ | exact ((ht.alloc _).alloc _).later _ | exact (((ht.alloc _).later _).alloc _).later _) hm h0 h1 h2).onL ?_ | refine (clearanceAt_any g off n c xs r g2 off2 m c2 gs p _ (by first | exact hs | exact hs.later _ | exact hs.alloc _ | exact (hs.alloc _).later _ | exact (hs.later _).alloc _ | exact ((hs.later _).alloc _).later _ | exact ((hs.alloc _).later _).alloc _ | exact (hs.alloc _).alloc _ | exact ((hs.alloc _).alloc _).later _ | exact (((hs.alloc _).later _).alloc _).later _) hn (by first | exact ht | exact ht.later _ | exact ht.alloc _ | exact (ht.alloc _).later _ | exact (ht.later _).alloc _ | exact ((ht.later _).alloc _).later _ | exact ((ht.alloc _).later _).alloc _ | exact (ht.alloc _).alloc _ | exact ((ht.alloc _).alloc _).later _ | exact (((ht.alloc _).later _).alloc _).later _) hm h0 h1 h2).on ?_); intro xq) | ((with_reducible refine wp_region_later (by kernel_rfl) (by kernel_rfl) ?_); (repeat (go_big_quiet_step (fail))); refine wpQuiet_nil ?_; rintro _ ⟨xr, rfl⟩))
    all_goals (go_ret3; exact ⟨by rw [hfin.out]; try rfl, (by repeat (with_reducible first | exact Below.refl _ _ | refine bw_later ?_ _ | refine bw_alloc ?_ _ | refine bw_drew ?_ | refine bw_set ?_ (Nat.le_refl _) _ | refine bw_set ?_ ?_ _ | exact Nat.le_refl _ | exact later_size _ _ | refine Nat.le_trans ?_ (later_size _ _) | refine Nat.le_trans ?_ (size_alloc_le _ _) | refine Nat.le_trans ?_ (Nat.le_add_right _ _)))⟩)
  have hfin := Lib.hid (show clearF xs r gs p = (redN (clN xs r gs p) (clD xs r gs p), redD (clN xs r gs p) (clD xs r gs p), true) by simp [clearF, h0, h1, h2])
  unfold R2.v
  go_enter Try.func34, Try.ntmps34
  go_wp2_with (first | (go_at_call 49; (first | refine (i_on_any g off n c xs p _ (by first | exact hs | exact hs.later _ | exact hs.alloc _ | exact (hs.alloc _).later _ | exact (hs.later _).alloc _ | exact ((hs.later _).alloc _).later _ | exact ((hs.alloc _).later _).alloc _ | exact (hs.alloc _).alloc _ | exact ((hs.alloc _).alloc _).later _ | exact (((hs.alloc _).later _).alloc _).later _) hn).onL ?_ | refine (i_on_any g off n c xs p _ (by first | exact hs | exact hs.later _ | exact hs.alloc _ | exact (hs.alloc _).later _ | exact (hs.later _).alloc _ | exact ((hs.later _).alloc _).later _ | exact ((hs.alloc _).later _).alloc _ | exact (hs.alloc _).alloc _ | exact ((hs.alloc _).alloc _).later _ | exact (((hs.alloc _).later _).alloc _).later _) hn).on ?_); intro xq) | (go_at_call 14; (first | refine (impl_IsRope_any r _).onL ?_ | refine (impl_IsRope_any r _).on ?_); intro xq) | (go_at_call 20; (first | refine (i_ground_any g off n c xs g2 off2 m c2 gs _ (by first | exact hs | exact hs.later _ | exact hs.alloc _ | exact (hs.alloc _).later _ | exact (hs.later _).alloc _ | exact ((hs.later _).alloc _).later _ | exact ((hs.alloc _).later _).alloc _ | exact (hs.alloc _).alloc _ | exact ((hs.alloc _).alloc _).later _ | exact (((hs.alloc _).later _).alloc _).later _) hn (by first | exact ht | exact ht.later _ | exact ht.alloc _ | exact (ht.alloc _).later _ | exact (ht.later _).alloc _ | exact ((ht.later _).alloc _).later _ | exact ((ht.alloc _).later _).alloc _ | exact (ht.alloc _).alloc _ | exact ((ht.alloc _).alloc _).later _ | exact (((ht.alloc _).later _).alloc _).later _) hm).onL ?_ | refine (i_ground_any g off n c xs g2 off2 m c2 gs _ (by first | exact hs | exact hs.later _ | exact hs.alloc _ | exact (hs.alloc _).later _ | exact (hs.later _).alloc _ | exact ((hs.later _).alloc _).later _ | exact ((hs.alloc _).later _).alloc _ | exact (hs.alloc _).alloc _ | exact ((hs.alloc _).alloc _).later _ | exact (((hs.alloc _).later _).alloc _).later _) hn (by first | exact ht | exact ht.later _ | exact ht.alloc _ | exact (ht.alloc _).later _ | exact (ht.later _).alloc _ | exact ((ht.later _).alloc _).later _ | exact ((ht.alloc _).later _).alloc _ | exact (ht.alloc _).alloc _ | exact ((ht.alloc _).alloc _).later _ | exact (((ht.alloc _).later _).alloc _).later _) hm).on ?_); intro xq) | (go_at_call 55; (first | refine (clearanceAt_any g off n c xs r g2 off2 m c2 gs p _ (by first | exact hs | exact hs.later _ | exact hs.alloc _ | exact (hs.alloc _).later _ | exact (hs.later _).alloc _ | exact ((hs.later _).alloc _).later _ | exact ((hs.alloc _).later _).alloc _ | exact (hs.alloc _).alloc _ | exact ((hs.alloc _).alloc _).later _ | exact (((hs.alloc _).later _).alloc _).later _) hn (by first | exact ht | exact ht.later _ | exact ht.alloc _ | exact (ht.alloc _).later _ | exact (ht.later _).alloc _ | exact ((ht.later _).alloc _).later _ | exact ((ht.alloc _).later _).alloc _ | exact (ht.alloc _).alloc _ | exact ((ht.alloc _).alloc _).later _ | exact (((ht.alloc _).later _).alloc _).later _) hm h0 h1 h2).onL ?_ | refine (clearanceAt_any g off n c xs r g2 off2 m c2 gs p _ (by first | exact hs | exact hs.later _ | exact hs.alloc _ | exact (hs.alloc _).later _ | exact (hs.later _).alloc _ | exact ((hs.later _).alloc _).later _ | exact ((hs.alloc _).later _).alloc _ | exact (hs.alloc _).alloc _ | exact ((hs.alloc _).alloc _).later _ | exact (((hs.alloc _).later _).alloc _).later _) hn (by first | exact ht | exact ht.later _ | exact ht.alloc _ | exact (ht.alloc _).later _ | exact (ht.later _).alloc _ | exact ((ht.later _).alloc _).later _ | exact ((ht.alloc _).later _).alloc _ | exact (ht.alloc _).alloc _ | exact ((ht.alloc _).alloc _).later _ | exact (((ht.alloc _).later _).alloc _).later _) hm h0 h1 h2).on ?_); intro xq) | ((with_reducible refine wp_region_later (by kernel_rfl) (by kernel_rfl) ?_); (repeat (go_big_quiet_step (fail))); refine wpQuiet_nil ?_; rintro _ ⟨xr, rfl⟩))
  all_goals (go_ret3; exact ⟨by rw [hfin.out]; try rfl, (by repeat (with_reducible first | exact Below.refl _ _ | refine bw_later ?_ _ | refine bw_alloc ?_ _ | refine bw_drew ?_ | refine bw_set ?_ (Nat.le_refl _) _ | refine bw_set ?_ ?_ _ | exact Nat.le_refl _ | exact later_size _ _ | refine Nat.le_trans ?_ (later_size _ _) | refine Nat.le_trans ?_ (size_alloc_le _ _) | refine Nat.le_trans ?_ (Nat.le_add_right _ _)))⟩)
end Go.Proofs.Ytkdekpnnnpembaa
