/- A cabin as text: the plain side, the reference, the program, the law. -/
import Derived.Test.YtnibhaabhjgmgaaDoorCabinOk
import Derived.Test.YtnibhaabhjgmgaaDoorItoa
import Derived.Test.YtnibhaabhjgmgaaDoorSplitL
namespace Go.Proofs.YtnibhaabhjgmgaaDoor
open Go.RowKit
def stB (d : Int) : ByteArray := if d = 0 then ⟨#[114, 101, 97, 100, 121]⟩ else if d = 1 then ⟨#[111, 110, 32, 108, 105, 110, 101]⟩ else if d = 2 then ⟨#[112, 97, 114, 107, 101, 100]⟩ else ⟨#[98, 114, 111, 107, 101, 110]⟩
def cabB (r : R5) : ByteArray := ⟨#[99, 97, 98, 105, 110, 32]⟩ ++ numB r.a ++ ⟨#[58, 32]⟩ ++ numB r.b ++ ⟨#[32, 115, 101, 97, 116, 115, 44, 32]⟩ ++ numB r.c ++ ⟨#[32, 107, 103, 44, 32]⟩ ++ stB r.d ++ ⟨#[44, 32]⟩ ++ numB r.e ++ ⟨#[32, 116, 114, 105, 112, 115]⟩
def Nm (w : World) : Prop := ∀ d : Nat, d < 4 → w.cell? ⟨0, d, none⟩ = some (.string (stB (d : Int)))
theorem Nm.keep {w w' : World} (h : Nm w) (hb : Below w.heap.size w w') : Nm w' := fun d hd => (hb.cell (p := ⟨_, _, none⟩) (World.block_lt_of_cell? w _ (h d hd))).trans (h d hd)
theorem Nm.later {w : World} (h : Nm w) (x : Lat w) : Nm (later w x) := h.keep (later_below w x)
theorem Nm.alloc {w : World} (h : Nm w) (o : Obj) : Nm (w.alloc o) := h.keep (bw_alloc (Below.refl _ _) o)
set_option maxHeartbeats 4000000 in
set_option maxRecDepth 20000 in
theorem s_cabinText_any (r : R5) (h : isCabin r = true) (w : World)  : Gv Tryd.prog 12 #[r.v] w (.string (cabB r)) := by
  unfold Gv R5.v
  obtain ⟨⟨a1, a2⟩, ⟨b1, b2⟩, ⟨c1, c2⟩, ⟨d1, d2⟩, e1, e2⟩ := cabin_bd h
  obtain ⟨a, b, c, d, e⟩ := r
  simp only at a1 a2 b1 b2 c1 c2 d1 d2 e1 e2
  have s1 := numB_size (n := a) (by omega) (by omega)
  have s2 := numB_size (n := b) (by omega) (by omega)
  have s3 := numB_size (n := c) (by omega) (by omega)
  have s4 := numB_size (n := e) (by omega) (by omega)
  have hc : Hid (∀ n : Int, (n = a ∨ n = b ∨ n = c ∨ n = e) → ∀ w, Gv Tryd.prog 25 #[.int .i64 n] w (.string (numB n))) := Lib.hid fun n hn w  => num_any n (by omega) (by omega) w 
  have hd : d = 0 ∨ d = 1 ∨ d = 2 ∨ d = 3 := by omega
  clear a1 a2 b1 b2 c1 c2 d1 d2 e1 e2 h
  rcases hd with rfl | rfl | rfl | rfl
  · have hfin := Lib.hid (show cabB ⟨a, b, c, 0, e⟩ = ⟨#[99, 97, 98, 105, 110, 32]⟩ ++ numB a ++ ⟨#[58, 32]⟩ ++ numB b ++ ⟨#[32, 115, 101, 97, 116, 115, 44, 32]⟩ ++ numB c ++ ⟨#[32, 107, 103, 44, 32]⟩ ++ ⟨#[114, 101, 97, 100, 121]⟩ ++ ⟨#[44, 32]⟩ ++ numB e ++ ⟨#[32, 116, 114, 105, 112, 115]⟩ by rfl)
    have z0 : ¬ 9223372036854775807 < 6 + (numB a).size := by omega
    have z1 : ¬ 9223372036854775807 < 6 + (numB a).size + 2 := by omega
    have z2 : ¬ 9223372036854775807 < 6 + (numB a).size + 2 + (numB b).size := by omega
    have z3 : ¬ 9223372036854775807 < 6 + (numB a).size + 2 + (numB b).size + 8 := by omega
    have z4 : ¬ 9223372036854775807 < 6 + (numB a).size + 2 + (numB b).size + 8 + (numB c).size := by omega
    have z5 : ¬ 9223372036854775807 < 6 + (numB a).size + 2 + (numB b).size + 8 + (numB c).size + 5 := by omega
    have z6 : ¬ 9223372036854775807 < 6 + (numB a).size + 2 + (numB b).size + 8 + (numB c).size + 5 + 5 := by omega
    have z7 : ¬ 9223372036854775807 < 6 + (numB a).size + 2 + (numB b).size + 8 + (numB c).size + 5 + 5 + 2 := by omega
    have z8 : ¬ 9223372036854775807 < 6 + (numB a).size + 2 + (numB b).size + 8 + (numB c).size + 5 + 5 + 2 + (numB e).size := by omega
    have z9 : ¬ 9223372036854775807 < 6 + (numB a).size + 2 + (numB b).size + 8 + (numB c).size + 5 + 5 + 2 + (numB e).size + 6 := by omega
    go_enter Tryd.func12, Tryd.ntmps12
    go_wp2_with ((with_reducible refine wp_region_later (by kernel_rfl) (by kernel_rfl) ?_); (repeat (go_big_quiet_step ((first | (go_at_call 25; exact (hc.out _ (by first | exact .inl rfl | exact .inr (.inl rfl) | exact .inr (.inr (.inl rfl)) | exact .inr (.inr (.inr rfl))) _).quiet) | fail)))); refine wpQuiet_nil ?_; rintro _ ⟨xr, rfl⟩)
    go_ret
    exact ⟨by rw [hfin.out]; rfl, (by repeat (with_reducible first | exact hbD | exact Below.refl _ _ | refine bw_later ?_ _ | refine bw_alloc ?_ _ | refine bw_drew ?_ | refine bw_set ?_ (Nat.le_refl _) _ | refine bw_set ?_ ?_ _ | exact Nat.le_refl _ | exact later_size _ _ | refine Nat.le_trans ?_ (later_size _ _) | refine Nat.le_trans ?_ (size_alloc_le _ _) | refine Nat.le_trans ?_ (Nat.le_add_right _ _)))⟩
  · have hfin := Lib.hid (show cabB ⟨a, b, c, 1, e⟩ = ⟨#[99, 97, 98, 105, 110, 32]⟩ ++ numB a ++ ⟨#[58, 32]⟩ ++ numB b ++ ⟨#[32, 115, 101, 97, 116, 115, 44, 32]⟩ ++ numB c ++ ⟨#[32, 107, 103, 44, 32]⟩ ++ ⟨#[111, 110, 32, 108, 105, 110, 101]⟩ ++ ⟨#[44, 32]⟩ ++ numB e ++ ⟨#[32, 116, 114, 105, 112, 115]⟩ by rfl)
    have z0 : ¬ 9223372036854775807 < 6 + (numB a).size := by omega
    have z1 : ¬ 9223372036854775807 < 6 + (numB a).size + 2 := by omega
    have z2 : ¬ 9223372036854775807 < 6 + (numB a).size + 2 + (numB b).size := by omega
    have z3 : ¬ 9223372036854775807 < 6 + (numB a).size + 2 + (numB b).size + 8 := by omega
    have z4 : ¬ 9223372036854775807 < 6 + (numB a).size + 2 + (numB b).size + 8 + (numB c).size := by omega
    have z5 : ¬ 9223372036854775807 < 6 + (numB a).size + 2 + (numB b).size + 8 + (numB c).size + 5 := by omega
    have z6 : ¬ 9223372036854775807 < 6 + (numB a).size + 2 + (numB b).size + 8 + (numB c).size + 5 + 7 := by omega
    have z7 : ¬ 9223372036854775807 < 6 + (numB a).size + 2 + (numB b).size + 8 + (numB c).size + 5 + 7 + 2 := by omega
    have z8 : ¬ 9223372036854775807 < 6 + (numB a).size + 2 + (numB b).size + 8 + (numB c).size + 5 + 7 + 2 + (numB e).size := by omega
    have z9 : ¬ 9223372036854775807 < 6 + (numB a).size + 2 + (numB b).size + 8 + (numB c).size + 5 + 7 + 2 + (numB e).size + 6 := by omega
    go_enter Tryd.func12, Tryd.ntmps12
    go_wp2_with ((with_reducible refine wp_region_later (by kernel_rfl) (by kernel_rfl) ?_); (repeat (go_big_quiet_step ((first | (go_at_call 25; exact (hc.out _ (by first | exact .inl rfl | exact .inr (.inl rfl) | exact .inr (.inr (.inl rfl)) | exact .inr (.inr (.inr rfl))) _).quiet) | fail)))); refine wpQuiet_nil ?_; rintro _ ⟨xr, rfl⟩)
    go_ret
    exact ⟨by rw [hfin.out]; rfl, (by repeat (with_reducible first | exact hbD | exact Below.refl _ _ | refine bw_later ?_ _ | refine bw_alloc ?_ _ | refine bw_drew ?_ | refine bw_set ?_ (Nat.le_refl _) _ | refine bw_set ?_ ?_ _ | exact Nat.le_refl _ | exact later_size _ _ | refine Nat.le_trans ?_ (later_size _ _) | refine Nat.le_trans ?_ (size_alloc_le _ _) | refine Nat.le_trans ?_ (Nat.le_add_right _ _)))⟩
  · have hfin := Lib.hid (show cabB ⟨a, b, c, 2, e⟩ = ⟨#[99, 97, 98, 105, 110, 32]⟩ ++ numB a ++ ⟨#[58, 32]⟩ ++ numB b ++ ⟨#[32, 115, 101, 97, 116, 115, 44, 32]⟩ ++ numB c ++ ⟨#[32, 107, 103, 44, 32]⟩ ++ ⟨#[112, 97, 114, 107, 101, 100]⟩ ++ ⟨#[44, 32]⟩ ++ numB e ++ ⟨#[32, 116, 114, 105, 112, 115]⟩ by rfl)
    have z0 : ¬ 9223372036854775807 < 6 + (numB a).size := by omega
    have z1 : ¬ 9223372036854775807 < 6 + (numB a).size + 2 := by omega
    have z2 : ¬ 9223372036854775807 < 6 + (numB a).size + 2 + (numB b).size := by omega
    have z3 : ¬ 9223372036854775807 < 6 + (numB a).size + 2 + (numB b).size + 8 := by omega
    have z4 : ¬ 9223372036854775807 < 6 + (numB a).size + 2 + (numB b).size + 8 + (numB c).size := by omega
    have z5 : ¬ 9223372036854775807 < 6 + (numB a).size + 2 + (numB b).size + 8 + (numB c).size + 5 := by omega
    have z6 : ¬ 9223372036854775807 < 6 + (numB a).size + 2 + (numB b).size + 8 + (numB c).size + 5 + 6 := by omega
    have z7 : ¬ 9223372036854775807 < 6 + (numB a).size + 2 + (numB b).size + 8 + (numB c).size + 5 + 6 + 2 := by omega
    have z8 : ¬ 9223372036854775807 < 6 + (numB a).size + 2 + (numB b).size + 8 + (numB c).size + 5 + 6 + 2 + (numB e).size := by omega
    have z9 : ¬ 9223372036854775807 < 6 + (numB a).size + 2 + (numB b).size + 8 + (numB c).size + 5 + 6 + 2 + (numB e).size + 6 := by omega
    go_enter Tryd.func12, Tryd.ntmps12
    go_wp2_with ((with_reducible refine wp_region_later (by kernel_rfl) (by kernel_rfl) ?_); (repeat (go_big_quiet_step ((first | (go_at_call 25; exact (hc.out _ (by first | exact .inl rfl | exact .inr (.inl rfl) | exact .inr (.inr (.inl rfl)) | exact .inr (.inr (.inr rfl))) _).quiet) | fail)))); refine wpQuiet_nil ?_; rintro _ ⟨xr, rfl⟩)
    go_ret
    exact ⟨by rw [hfin.out]; rfl, (by repeat (with_reducible first | exact hbD | exact Below.refl _ _ | refine bw_later ?_ _ | refine bw_alloc ?_ _ | refine bw_drew ?_ | refine bw_set ?_ (Nat.le_refl _) _ | refine bw_set ?_ ?_ _ | exact Nat.le_refl _ | exact later_size _ _ | refine Nat.le_trans ?_ (later_size _ _) | refine Nat.le_trans ?_ (size_alloc_le _ _) | refine Nat.le_trans ?_ (Nat.le_add_right _ _)))⟩
  · have hfin := Lib.hid (show cabB ⟨a, b, c, 3, e⟩ = ⟨#[99, 97, 98, 105, 110, 32]⟩ ++ numB a ++ ⟨#[58, 32]⟩ ++ numB b ++ ⟨#[32, 115, 101, 97, 116, 115, 44, 32]⟩ ++ numB c ++ ⟨#[32, 107, 103, 44, 32]⟩ ++ ⟨#[98, 114, 111, 107, 101, 110]⟩ ++ ⟨#[44, 32]⟩ ++ numB e ++ ⟨#[32, 116, 114, 105, 112, 115]⟩ by rfl)
    have z0 : ¬ 9223372036854775807 < 6 + (numB a).size := by omega
    have z1 : ¬ 9223372036854775807 < 6 + (numB a).size + 2 := by omega
    have z2 : ¬ 9223372036854775807 < 6 + (numB a).size + 2 + (numB b).size := by omega
    have z3 : ¬ 9223372036854775807 < 6 + (numB a).size + 2 + (numB b).size + 8 := by omega
    have z4 : ¬ 9223372036854775807 < 6 + (numB a).size + 2 + (numB b).size + 8 + (numB c).size := by omega
    have z5 : ¬ 9223372036854775807 < 6 + (numB a).size + 2 + (numB b).size + 8 + (numB c).size + 5 := by omega
    have z6 : ¬ 9223372036854775807 < 6 + (numB a).size + 2 + (numB b).size + 8 + (numB c).size + 5 + 6 := by omega
    have z7 : ¬ 9223372036854775807 < 6 + (numB a).size + 2 + (numB b).size + 8 + (numB c).size + 5 + 6 + 2 := by omega
    have z8 : ¬ 9223372036854775807 < 6 + (numB a).size + 2 + (numB b).size + 8 + (numB c).size + 5 + 6 + 2 + (numB e).size := by omega
    have z9 : ¬ 9223372036854775807 < 6 + (numB a).size + 2 + (numB b).size + 8 + (numB c).size + 5 + 6 + 2 + (numB e).size + 6 := by omega
    go_enter Tryd.func12, Tryd.ntmps12
    go_wp2_with ((with_reducible refine wp_region_later (by kernel_rfl) (by kernel_rfl) ?_); (repeat (go_big_quiet_step ((first | (go_at_call 25; exact (hc.out _ (by first | exact .inl rfl | exact .inr (.inl rfl) | exact .inr (.inr (.inl rfl)) | exact .inr (.inr (.inr rfl))) _).quiet) | fail)))); refine wpQuiet_nil ?_; rintro _ ⟨xr, rfl⟩)
    go_ret
    exact ⟨by rw [hfin.out]; rfl, (by repeat (with_reducible first | exact hbD | exact Below.refl _ _ | refine bw_later ?_ _ | refine bw_alloc ?_ _ | refine bw_drew ?_ | refine bw_set ?_ (Nat.le_refl _) _ | refine bw_set ?_ ?_ _ | exact Nat.le_refl _ | exact later_size _ _ | refine Nat.le_trans ?_ (later_size _ _) | refine Nat.le_trans ?_ (size_alloc_le _ _) | refine Nat.le_trans ?_ (Nat.le_add_right _ _)))⟩
set_option maxHeartbeats 4000000 in
set_option maxRecDepth 20000 in
theorem i_cabinText_any (r : R5) (h : isCabin r = true) (w : World) (ht : Tab w) (hN : Nm w) : Gv Tryd.prog 14 #[r.v] w (.string (cabB r)) := by
  unfold Gv R5.v
  obtain ⟨⟨a1, a2⟩, ⟨b1, b2⟩, ⟨c1, c2⟩, ⟨d1, d2⟩, e1, e2⟩ := cabin_bd h
  obtain ⟨a, b, c, d, e⟩ := r
  simp only at a1 a2 b1 b2 c1 c2 d1 d2 e1 e2
  have s1 := numB_size (n := a) (by omega) (by omega)
  have s2 := numB_size (n := b) (by omega) (by omega)
  have s3 := numB_size (n := c) (by omega) (by omega)
  have s4 := numB_size (n := e) (by omega) (by omega)
  have hc : Hid (∀ n : Int, (n = a ∨ n = b ∨ n = c ∨ n = e) → ∀ w, Tab w → Gv Tryd.prog 27 #[.int .i64 n] w (.string (numB n))) := Lib.hid fun n hn w ht => itoa_any n (by omega) (by omega) w ht
  have hd : d = 0 ∨ d = 1 ∨ d = 2 ∨ d = 3 := by omega
  clear a1 a2 b1 b2 c1 c2 d1 d2 e1 e2 h
  rcases hd with rfl | rfl | rfl | rfl
  · have hfin := Lib.hid (show cabB ⟨a, b, c, 0, e⟩ = ⟨#[99, 97, 98, 105, 110, 32]⟩ ++ numB a ++ ⟨#[58, 32]⟩ ++ numB b ++ ⟨#[32, 115, 101, 97, 116, 115, 44, 32]⟩ ++ numB c ++ ⟨#[32, 107, 103, 44, 32]⟩ ++ ⟨#[114, 101, 97, 100, 121]⟩ ++ ⟨#[44, 32]⟩ ++ numB e ++ ⟨#[32, 116, 114, 105, 112, 115]⟩ by rfl)
    have z0 : ¬ 9223372036854775807 < 6 + (numB a).size := by omega
    have z1 : ¬ 9223372036854775807 < 6 + (numB a).size + 2 := by omega
    have z2 : ¬ 9223372036854775807 < 6 + (numB a).size + 2 + (numB b).size := by omega
    have z3 : ¬ 9223372036854775807 < 6 + (numB a).size + 2 + (numB b).size + 8 := by omega
    have z4 : ¬ 9223372036854775807 < 6 + (numB a).size + 2 + (numB b).size + 8 + (numB c).size := by omega
    have z5 : ¬ 9223372036854775807 < 6 + (numB a).size + 2 + (numB b).size + 8 + (numB c).size + 5 := by omega
    have z6 : ¬ 9223372036854775807 < 6 + (numB a).size + 2 + (numB b).size + 8 + (numB c).size + 5 + 5 := by omega
    have z7 : ¬ 9223372036854775807 < 6 + (numB a).size + 2 + (numB b).size + 8 + (numB c).size + 5 + 5 + 2 := by omega
    have z8 : ¬ 9223372036854775807 < 6 + (numB a).size + 2 + (numB b).size + 8 + (numB c).size + 5 + 5 + 2 + (numB e).size := by omega
    have z9 : ¬ 9223372036854775807 < 6 + (numB a).size + 2 + (numB b).size + 8 + (numB c).size + 5 + 5 + 2 + (numB e).size + 6 := by omega
    have hnm := hN 0 (by omega)
    have hnm0 : w.cell? ⟨0, 0, none⟩ = some (.string ⟨#[114, 101, 97, 100, 121]⟩) := hnm
    have hlt0 := World.block_lt_of_cell? w _ hnm0
    simp only at hlt0
    clear hnm
    go_enter Tryd.func14, Tryd.ntmps14
    go_wp2_with ((with_reducible refine wp_region_later (by kernel_rfl) (by kernel_rfl) ?_); (repeat (go_big_quiet_step ((first | (go_at_call 27; exact (hc.out _ (by first | exact .inl rfl | exact .inr (.inl rfl) | exact .inr (.inr (.inl rfl)) | exact .inr (.inr (.inr rfl))) _ (ht.keep (by repeat (with_reducible first | exact hbD | exact Below.refl _ _ | refine bw_later ?_ _ | refine bw_alloc ?_ _ | refine bw_drew ?_ | refine bw_set ?_ (Nat.le_refl _) _ | refine bw_set ?_ ?_ _ | exact Nat.le_refl _ | exact later_size _ _ | refine Nat.le_trans ?_ (later_size _ _) | refine Nat.le_trans ?_ (size_alloc_le _ _) | refine Nat.le_trans ?_ (Nat.le_add_right _ _))))).quiet) | fail)))); refine wpQuiet_nil ?_; rintro _ ⟨xr, rfl⟩)
    go_ret
    exact ⟨by rw [hfin.out]; rfl, (by repeat (with_reducible first | exact hbD | exact Below.refl _ _ | refine bw_later ?_ _ | refine bw_alloc ?_ _ | refine bw_drew ?_ | refine bw_set ?_ (Nat.le_refl _) _ | refine bw_set ?_ ?_ _ | exact Nat.le_refl _ | exact later_size _ _ | refine Nat.le_trans ?_ (later_size _ _) | refine Nat.le_trans ?_ (size_alloc_le _ _) | refine Nat.le_trans ?_ (Nat.le_add_right _ _)))⟩
  · have hfin := Lib.hid (show cabB ⟨a, b, c, 1, e⟩ = ⟨#[99, 97, 98, 105, 110, 32]⟩ ++ numB a ++ ⟨#[58, 32]⟩ ++ numB b ++ ⟨#[32, 115, 101, 97, 116, 115, 44, 32]⟩ ++ numB c ++ ⟨#[32, 107, 103, 44, 32]⟩ ++ ⟨#[111, 110, 32, 108, 105, 110, 101]⟩ ++ ⟨#[44, 32]⟩ ++ numB e ++ ⟨#[32, 116, 114, 105, 112, 115]⟩ by rfl)
    have z0 : ¬ 9223372036854775807 < 6 + (numB a).size := by omega
    have z1 : ¬ 9223372036854775807 < 6 + (numB a).size + 2 := by omega
    have z2 : ¬ 9223372036854775807 < 6 + (numB a).size + 2 + (numB b).size := by omega
    have z3 : ¬ 9223372036854775807 < 6 + (numB a).size + 2 + (numB b).size + 8 := by omega
    have z4 : ¬ 9223372036854775807 < 6 + (numB a).size + 2 + (numB b).size + 8 + (numB c).size := by omega
    have z5 : ¬ 9223372036854775807 < 6 + (numB a).size + 2 + (numB b).size + 8 + (numB c).size + 5 := by omega
    have z6 : ¬ 9223372036854775807 < 6 + (numB a).size + 2 + (numB b).size + 8 + (numB c).size + 5 + 7 := by omega
    have z7 : ¬ 9223372036854775807 < 6 + (numB a).size + 2 + (numB b).size + 8 + (numB c).size + 5 + 7 + 2 := by omega
    have z8 : ¬ 9223372036854775807 < 6 + (numB a).size + 2 + (numB b).size + 8 + (numB c).size + 5 + 7 + 2 + (numB e).size := by omega
    have z9 : ¬ 9223372036854775807 < 6 + (numB a).size + 2 + (numB b).size + 8 + (numB c).size + 5 + 7 + 2 + (numB e).size + 6 := by omega
    have hnm := hN 1 (by omega)
    have hnm0 : w.cell? ⟨0, 1, none⟩ = some (.string ⟨#[111, 110, 32, 108, 105, 110, 101]⟩) := hnm
    have hlt0 := World.block_lt_of_cell? w _ hnm0
    simp only at hlt0
    clear hnm
    go_enter Tryd.func14, Tryd.ntmps14
    go_wp2_with ((with_reducible refine wp_region_later (by kernel_rfl) (by kernel_rfl) ?_); (repeat (go_big_quiet_step ((first | (go_at_call 27; exact (hc.out _ (by first | exact .inl rfl | exact .inr (.inl rfl) | exact .inr (.inr (.inl rfl)) | exact .inr (.inr (.inr rfl))) _ (ht.keep (by repeat (with_reducible first | exact hbD | exact Below.refl _ _ | refine bw_later ?_ _ | refine bw_alloc ?_ _ | refine bw_drew ?_ | refine bw_set ?_ (Nat.le_refl _) _ | refine bw_set ?_ ?_ _ | exact Nat.le_refl _ | exact later_size _ _ | refine Nat.le_trans ?_ (later_size _ _) | refine Nat.le_trans ?_ (size_alloc_le _ _) | refine Nat.le_trans ?_ (Nat.le_add_right _ _))))).quiet) | fail)))); refine wpQuiet_nil ?_; rintro _ ⟨xr, rfl⟩)
    go_ret
    exact ⟨by rw [hfin.out]; rfl, (by repeat (with_reducible first | exact hbD | exact Below.refl _ _ | refine bw_later ?_ _ | refine bw_alloc ?_ _ | refine bw_drew ?_ | refine bw_set ?_ (Nat.le_refl _) _ | refine bw_set ?_ ?_ _ | exact Nat.le_refl _ | exact later_size _ _ | refine Nat.le_trans ?_ (later_size _ _) | refine Nat.le_trans ?_ (size_alloc_le _ _) | refine Nat.le_trans ?_ (Nat.le_add_right _ _)))⟩
  · have hfin := Lib.hid (show cabB ⟨a, b, c, 2, e⟩ = ⟨#[99, 97, 98, 105, 110, 32]⟩ ++ numB a ++ ⟨#[58, 32]⟩ ++ numB b ++ ⟨#[32, 115, 101, 97, 116, 115, 44, 32]⟩ ++ numB c ++ ⟨#[32, 107, 103, 44, 32]⟩ ++ ⟨#[112, 97, 114, 107, 101, 100]⟩ ++ ⟨#[44, 32]⟩ ++ numB e ++ ⟨#[32, 116, 114, 105, 112, 115]⟩ by rfl)
    have z0 : ¬ 9223372036854775807 < 6 + (numB a).size := by omega
    have z1 : ¬ 9223372036854775807 < 6 + (numB a).size + 2 := by omega
    have z2 : ¬ 9223372036854775807 < 6 + (numB a).size + 2 + (numB b).size := by omega
    have z3 : ¬ 9223372036854775807 < 6 + (numB a).size + 2 + (numB b).size + 8 := by omega
    have z4 : ¬ 9223372036854775807 < 6 + (numB a).size + 2 + (numB b).size + 8 + (numB c).size := by omega
    have z5 : ¬ 9223372036854775807 < 6 + (numB a).size + 2 + (numB b).size + 8 + (numB c).size + 5 := by omega
    have z6 : ¬ 9223372036854775807 < 6 + (numB a).size + 2 + (numB b).size + 8 + (numB c).size + 5 + 6 := by omega
    have z7 : ¬ 9223372036854775807 < 6 + (numB a).size + 2 + (numB b).size + 8 + (numB c).size + 5 + 6 + 2 := by omega
    have z8 : ¬ 9223372036854775807 < 6 + (numB a).size + 2 + (numB b).size + 8 + (numB c).size + 5 + 6 + 2 + (numB e).size := by omega
    have z9 : ¬ 9223372036854775807 < 6 + (numB a).size + 2 + (numB b).size + 8 + (numB c).size + 5 + 6 + 2 + (numB e).size + 6 := by omega
    have hnm := hN 2 (by omega)
    have hnm0 : w.cell? ⟨0, 2, none⟩ = some (.string ⟨#[112, 97, 114, 107, 101, 100]⟩) := hnm
    have hlt0 := World.block_lt_of_cell? w _ hnm0
    simp only at hlt0
    clear hnm
    go_enter Tryd.func14, Tryd.ntmps14
    go_wp2_with ((with_reducible refine wp_region_later (by kernel_rfl) (by kernel_rfl) ?_); (repeat (go_big_quiet_step ((first | (go_at_call 27; exact (hc.out _ (by first | exact .inl rfl | exact .inr (.inl rfl) | exact .inr (.inr (.inl rfl)) | exact .inr (.inr (.inr rfl))) _ (ht.keep (by repeat (with_reducible first | exact hbD | exact Below.refl _ _ | refine bw_later ?_ _ | refine bw_alloc ?_ _ | refine bw_drew ?_ | refine bw_set ?_ (Nat.le_refl _) _ | refine bw_set ?_ ?_ _ | exact Nat.le_refl _ | exact later_size _ _ | refine Nat.le_trans ?_ (later_size _ _) | refine Nat.le_trans ?_ (size_alloc_le _ _) | refine Nat.le_trans ?_ (Nat.le_add_right _ _))))).quiet) | fail)))); refine wpQuiet_nil ?_; rintro _ ⟨xr, rfl⟩)
    go_ret
    exact ⟨by rw [hfin.out]; rfl, (by repeat (with_reducible first | exact hbD | exact Below.refl _ _ | refine bw_later ?_ _ | refine bw_alloc ?_ _ | refine bw_drew ?_ | refine bw_set ?_ (Nat.le_refl _) _ | refine bw_set ?_ ?_ _ | exact Nat.le_refl _ | exact later_size _ _ | refine Nat.le_trans ?_ (later_size _ _) | refine Nat.le_trans ?_ (size_alloc_le _ _) | refine Nat.le_trans ?_ (Nat.le_add_right _ _)))⟩
  · have hfin := Lib.hid (show cabB ⟨a, b, c, 3, e⟩ = ⟨#[99, 97, 98, 105, 110, 32]⟩ ++ numB a ++ ⟨#[58, 32]⟩ ++ numB b ++ ⟨#[32, 115, 101, 97, 116, 115, 44, 32]⟩ ++ numB c ++ ⟨#[32, 107, 103, 44, 32]⟩ ++ ⟨#[98, 114, 111, 107, 101, 110]⟩ ++ ⟨#[44, 32]⟩ ++ numB e ++ ⟨#[32, 116, 114, 105, 112, 115]⟩ by rfl)
    have z0 : ¬ 9223372036854775807 < 6 + (numB a).size := by omega
    have z1 : ¬ 9223372036854775807 < 6 + (numB a).size + 2 := by omega
    have z2 : ¬ 9223372036854775807 < 6 + (numB a).size + 2 + (numB b).size := by omega
    have z3 : ¬ 9223372036854775807 < 6 + (numB a).size + 2 + (numB b).size + 8 := by omega
    have z4 : ¬ 9223372036854775807 < 6 + (numB a).size + 2 + (numB b).size + 8 + (numB c).size := by omega
    have z5 : ¬ 9223372036854775807 < 6 + (numB a).size + 2 + (numB b).size + 8 + (numB c).size + 5 := by omega
    have z6 : ¬ 9223372036854775807 < 6 + (numB a).size + 2 + (numB b).size + 8 + (numB c).size + 5 + 6 := by omega
    have z7 : ¬ 9223372036854775807 < 6 + (numB a).size + 2 + (numB b).size + 8 + (numB c).size + 5 + 6 + 2 := by omega
    have z8 : ¬ 9223372036854775807 < 6 + (numB a).size + 2 + (numB b).size + 8 + (numB c).size + 5 + 6 + 2 + (numB e).size := by omega
    have z9 : ¬ 9223372036854775807 < 6 + (numB a).size + 2 + (numB b).size + 8 + (numB c).size + 5 + 6 + 2 + (numB e).size + 6 := by omega
    have hnm := hN 3 (by omega)
    have hnm0 : w.cell? ⟨0, 3, none⟩ = some (.string ⟨#[98, 114, 111, 107, 101, 110]⟩) := hnm
    have hlt0 := World.block_lt_of_cell? w _ hnm0
    simp only at hlt0
    clear hnm
    go_enter Tryd.func14, Tryd.ntmps14
    go_wp2_with ((with_reducible refine wp_region_later (by kernel_rfl) (by kernel_rfl) ?_); (repeat (go_big_quiet_step ((first | (go_at_call 27; exact (hc.out _ (by first | exact .inl rfl | exact .inr (.inl rfl) | exact .inr (.inr (.inl rfl)) | exact .inr (.inr (.inr rfl))) _ (ht.keep (by repeat (with_reducible first | exact hbD | exact Below.refl _ _ | refine bw_later ?_ _ | refine bw_alloc ?_ _ | refine bw_drew ?_ | refine bw_set ?_ (Nat.le_refl _) _ | refine bw_set ?_ ?_ _ | exact Nat.le_refl _ | exact later_size _ _ | refine Nat.le_trans ?_ (later_size _ _) | refine Nat.le_trans ?_ (size_alloc_le _ _) | refine Nat.le_trans ?_ (Nat.le_add_right _ _))))).quiet) | fail)))); refine wpQuiet_nil ?_; rintro _ ⟨xr, rfl⟩)
    go_ret
    exact ⟨by rw [hfin.out]; rfl, (by repeat (with_reducible first | exact hbD | exact Below.refl _ _ | refine bw_later ?_ _ | refine bw_alloc ?_ _ | refine bw_drew ?_ | refine bw_set ?_ (Nat.le_refl _) _ | refine bw_set ?_ ?_ _ | exact Nat.le_refl _ | exact later_size _ _ | refine Nat.le_trans ?_ (later_size _ _) | refine Nat.le_trans ?_ (size_alloc_le _ _) | refine Nat.le_trans ?_ (Nat.le_add_right _ _)))⟩
end Go.Proofs.YtnibhaabhjgmgaaDoor
