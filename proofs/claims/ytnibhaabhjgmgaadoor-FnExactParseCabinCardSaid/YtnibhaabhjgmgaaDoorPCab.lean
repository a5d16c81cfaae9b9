/- The cabin with a text: the program. -/
import Derived.Test.YtnibhaabhjgmgaaDoorPCabLib
import Derived.Test.YtnibhaabhjgmgaaDoorParse
import Derived.Test.YtnibhaabhjgmgaaDoorRegion
import Derived.Test.YtnibhaabhjgmgaaDoorPushK
namespace Go.Proofs.YtnibhaabhjgmgaaDoor
open Go.RowKit
theorem strs_cells {w' : World} {base n cap g : Nat} {ps : List ByteArray} (h : w'.ownsRow base 9 1 (.slice (some ⟨g, 0, none⟩) n cap) n (ps.map Value.string)) : ∀ (j : Nat) (p : ByteArray), ps[j]? = some p → w'.cell? ⟨g, j, none⟩ = some (.string p) := fun j p hp => by
  have := h.cells (g := g) rfl j (.string p) (by rw [List.getElem?_map, hp]; rfl)
  have e1 : (⟨g, 0, none⟩ : Addr).add j = ⟨g, j, none⟩ := by unfold Addr.add; split <;> simp_all
  rwa [e1] at this
theorem four_of {l : List ByteArray} (h : l.length = 4) : ∃ p q t u, l = [p, q, t, u] := by
  match l, h with
  | [p, q, t, u], _ => exact ⟨p, q, t, u, rfl⟩
/-- What a call says that hands back a cabin and a bool. -/
def GC (P : Program) (f : FuncId) (args : Array Value) (w : World) (r : R5 × Bool) : Prop := Gv P f args w (.tuple #[r.1.v, .bool r.2])
/-- A block of five cells that may be written, and what they hold. -/
structure Blk (w : World) (b : Nat) (x0 x1 x2 x3 x4 : Value) : Prop where
  lt : b < w.heap.size
  c0 : w.cell? ⟨b, 0, none⟩ = some x0
  c1 : w.cell? ⟨b, 1, none⟩ = some x1
  c2 : w.cell? ⟨b, 2, none⟩ = some x2
  c3 : w.cell? ⟨b, 3, none⟩ = some x3
  c4 : w.cell? ⟨b, 4, none⟩ = some x4
  fz : ∀ i, w.frozen? ⟨b, i, none⟩ = false
section
variable {w w' : World} {b g : Nat} {x0 x1 x2 x3 x4 : Value} {p q t u : ByteArray}
theorem Blk.new (w : World) (x0 x1 x2 x3 x4 : Value) (t : TypeId) : Blk (w.alloc (.cells #[x0, x1, x2, x3, x4] t)) w.heap.size x0 x1 x2 x3 x4 := ⟨by simp, by simp [go_sem], by simp [go_sem], by simp [go_sem], by simp [go_sem], by simp [go_sem], fun i => by simp [go_sem]⟩
theorem Blk.keep (h : Blk w b x0 x1 x2 x3 x4) (hb : Below w.heap.size w w') : Blk w' b x0 x1 x2 x3 x4 :=
  ⟨Nat.lt_of_lt_of_le h.lt hb.size, (hb.cell (p := ⟨_, _, none⟩) h.lt).trans h.c0, (hb.cell (p := ⟨_, _, none⟩) h.lt).trans h.c1, (hb.cell (p := ⟨_, _, none⟩) h.lt).trans h.c2, (hb.cell (p := ⟨_, _, none⟩) h.lt).trans h.c3, (hb.cell (p := ⟨_, _, none⟩) h.lt).trans h.c4, fun i => (hb.frozen (p := ⟨_, _, none⟩) h.lt).trans (h.fz i)⟩
theorem Blk.later (h : Blk w b x0 x1 x2 x3 x4) (x : Lat w) : Blk (later w x) b x0 x1 x2 x3 x4 := h.keep (later_below w x)
theorem Blk.set0 (h : Blk w b x0 x1 x2 x3 x4) (v : Value) : Blk (w.setCell ⟨b, 0, none⟩ v) b v x1 x2 x3 x4 := by
  obtain ⟨h, c0, c1, c2, c3, c4, fz⟩ := h
  exact ⟨by simpa [go_sem] using h, by simp [go_sem, c0], by simp [go_sem, c1], by simp [go_sem, c2], by simp [go_sem, c3], by simp [go_sem, c4], fun i => by simp [go_sem, fz]⟩
theorem Blk.set1 (h : Blk w b x0 x1 x2 x3 x4) (v : Value) : Blk (w.setCell ⟨b, 1, none⟩ v) b x0 v x2 x3 x4 := by
  obtain ⟨h, c0, c1, c2, c3, c4, fz⟩ := h
  exact ⟨by simpa [go_sem] using h, by simp [go_sem, c0], by simp [go_sem, c1], by simp [go_sem, c2], by simp [go_sem, c3], by simp [go_sem, c4], fun i => by simp [go_sem, fz]⟩
theorem Blk.set2 (h : Blk w b x0 x1 x2 x3 x4) (v : Value) : Blk (w.setCell ⟨b, 2, none⟩ v) b x0 x1 v x3 x4 := by
  obtain ⟨h, c0, c1, c2, c3, c4, fz⟩ := h
  exact ⟨by simpa [go_sem] using h, by simp [go_sem, c0], by simp [go_sem, c1], by simp [go_sem, c2], by simp [go_sem, c3], by simp [go_sem, c4], fun i => by simp [go_sem, fz]⟩
theorem Blk.set3 (h : Blk w b x0 x1 x2 x3 x4) (v : Value) : Blk (w.setCell ⟨b, 3, none⟩ v) b x0 x1 x2 v x4 := by
  obtain ⟨h, c0, c1, c2, c3, c4, fz⟩ := h
  exact ⟨by simpa [go_sem] using h, by simp [go_sem, c0], by simp [go_sem, c1], by simp [go_sem, c2], by simp [go_sem, c3], by simp [go_sem, c4], fun i => by simp [go_sem, fz]⟩
theorem Blk.set4 (h : Blk w b x0 x1 x2 x3 x4) (v : Value) : Blk (w.setCell ⟨b, 4, none⟩ v) b x0 x1 x2 x3 v := by
  obtain ⟨h, c0, c1, c2, c3, c4, fz⟩ := h
  exact ⟨by simpa [go_sem] using h, by simp [go_sem, c0], by simp [go_sem, c1], by simp [go_sem, c2], by simp [go_sem, c3], by simp [go_sem, c4], fun i => by simp [go_sem, fz]⟩
/-- Four texts in a row. -/
structure Str4 (w : World) (g : Nat) (p q t u : ByteArray) : Prop where
  lt : g < w.heap.size
  c0 : w.cell? ⟨g, 0, none⟩ = some (.string p)
  c1 : w.cell? ⟨g, 1, none⟩ = some (.string q)
  c2 : w.cell? ⟨g, 2, none⟩ = some (.string t)
  c3 : w.cell? ⟨g, 3, none⟩ = some (.string u)
theorem Str4.keep (h : Str4 w g p q t u) (hb : Below w.heap.size w w') : Str4 w' g p q t u :=
  ⟨Nat.lt_of_lt_of_le h.lt hb.size, (hb.cell (p := ⟨_, _, none⟩) h.lt).trans h.c0, (hb.cell (p := ⟨_, _, none⟩) h.lt).trans h.c1, (hb.cell (p := ⟨_, _, none⟩) h.lt).trans h.c2, (hb.cell (p := ⟨_, _, none⟩) h.lt).trans h.c3⟩
theorem Str4.of {base cap : Nat} (h : w.ownsRow base 9 1 (.slice (some ⟨g, 0, none⟩) 4 cap) 4 ([p, q, t, u].map Value.string)) : Str4 w g p q t u := by
  have hC := strs_cells (ps := [p, q, t, u]) h
  exact ⟨World.block_lt_of_cell? w _ (hC 0 p rfl), hC 0 p rfl, hC 1 q rfl, hC 2 t rfl, hC 3 u rfl⟩
end
def preX (s p : ByteArray) : ByteArray := ⟨(Lib.trimPrefix s.data.toList p.data.toList).toArray⟩
def sufX (s p : ByteArray) : ByteArray := ⟨(Lib.trimSuffix s.data.toList p.data.toList).toArray⟩
theorem preX_any (s p : ByteArray) (w : World) : Calls Tryd.prog 21 #[.string s, .string p] w fun e w' => e = .returned (.string (preX s p)) ∧ w' = w := Tryd.strings_TrimPrefix s p w
theorem sufX_any (s p : ByteArray) (hs : s.size ≤ 1048576) (w : World) : Calls Tryd.prog 22 #[.string s, .string p] w fun e w' => e = .returned (.string (sufX s p)) ∧ w' = w := Tryd.strings_TrimSuffix s p w (by omega)
theorem cabI_is (p q t u : ByteArray) : cabI p q t u = ⟨(readF (preX (headI p) ⟨#[99, 97, 98, 105, 110, 32]⟩)).1, (readF (sufX (seatI p) ⟨#[32, 115, 101, 97, 116, 115]⟩)).1, (readF (sufX q ⟨#[32, 107, 103]⟩)).1, Lib.idxOfS nameL t, (readF (sufX u ⟨#[32, 116, 114, 105, 112, 115]⟩)).1⟩ := rfl
set_option maxHeartbeats 4000000 in
set_option maxRecDepth 20000 in
theorem i_ParseCabin_any (s : ByteArray) (hsz : s.size ≤ 1048576) (w : World) (ht : Tab w) (he : Ers w) (hm : Mx w) (hN : Nm w) : GC Tryd.prog 9 #[.string s] w (pcF s) := by
  unfold GC Gv R5.v
  have hsp := Lib.hid (fun w hm => split2_any s hsz w hm)
  by_cases h4 : (sp2 s).length = 4
  rotate_left
  · have hfin := Lib.hid (pcF_four h4)
    have e1 : (((sp2 s).length : Int) == 4) = false := by rw [beq_eq_false_iff_ne]; omega
    have e2 : (((sp2 s).length : Int) != 4) = true := by rw [bne_iff_ne]; omega
    generalize sp2 s = ps at *
    clear h4
    go_enter Tryd.func9, Tryd.ntmps9
    go_wp2_with (go_at_call 17; refine Calls.mono (hsp.out _ (hm.alloc _)) ?_; rintro _ w1 ⟨g, cap, rfl, hg, hown, hb0⟩; have hbD : Below w.heap.size w w1 := bw_trans (bw_alloc (Below.refl w.heap.size w) _) hb0; have hF := (Blk.new w (.int .i64 0) (.int .i64 0) (.int .i64 0) (.int .i64 0) (.int .i64 0) 26).keep hb0; have ht1 := ht.keep hbD; have he1 := he.keep hbD; have hm1 := hm.keep hbD; have hN1 := hN.keep hbD; obtain ⟨rl, r0, r1, r2, r3, r4, rf⟩ := hF; clear hown hb0)
    exact bodyPost_ret (v := .tuple #[.agg #[.int .i64 0, .int .i64 0, .int .i64 0, .int .i64 0, .int .i64 0], .bool false]) (by simp [results, Tryd.results9, go_sem, r0, r1, r2, r3, r4]) rfl ⟨by rw [hfin.out]; rfl, (by repeat (with_reducible first | exact hbD | exact Below.refl _ _ | refine bw_later ?_ _ | refine bw_alloc ?_ _ | refine bw_drew ?_ | refine bw_set ?_ (Nat.le_refl _) _ | refine bw_set ?_ ?_ _ | exact Nat.le_refl _ | exact later_size _ _ | refine Nat.le_trans ?_ (later_size _ _) | refine Nat.le_trans ?_ (size_alloc_le _ _) | refine Nat.le_trans ?_ (Nat.le_add_right _ _)))⟩
  obtain ⟨p, q, t, u, h4p⟩ := four_of h4
  have z0 : p.size ≤ 1048576 := by have := sp2_each (s := s) (p := p) (by rw [h4p]; simp); omega
  have z1 : (seatI p).size ≤ 1048576 := by have := seatI_size p; omega
  have z2 : q.size ≤ 1048576 := by have := sp2_each (s := s) (p := q) (by rw [h4p]; simp); omega
  have z3 : u.size ≤ 1048576 := by have := sp2_each (s := s) (p := u) (by rw [h4p]; simp); omega
  have hcut := Lib.hid (fun w hm => cut2_any p z0 w hm)
  have hidx := Lib.hid (fun w hN => idx_any t w hN)
  have hno := Lib.hid (fun h => pcF_other (s := s) (p := p) (q := q) (t := t) (u := u) h4p h)
  have hyes := Lib.hid (fun h e => pcF_some (s := s) (r := cabI p q t u) h e)
  rw [cabI_is] at hno hyes
  rw [h4p] at hsp
  clear h4p h4 z0
  generalize (Lib.cut p.data.toList [58, 32]).2.2 = fnd at hcut
  generalize headI p = hd at *
  generalize seatI p = sd at *
  generalize Lib.idxOfS nameL t = d at *
  go_enter Tryd.func9, Tryd.ntmps9
  go_wp2_with (first | (go_at_call 17; refine Calls.mono (hsp.out _ (hm.alloc _)) ?_; rintro _ w1 ⟨g, cap, rfl, hg, hown, hb0⟩; have hbD : Below w.heap.size w w1 := bw_trans (bw_alloc (Below.refl w.heap.size w) _) hb0; have hF := (Blk.new w (.int .i64 0) (.int .i64 0) (.int .i64 0) (.int .i64 0) (.int .i64 0) 26).keep hb0; have ht1 := ht.keep hbD; have he1 := he.keep hbD; have hm1 := hm.keep hbD; have hN1 := hN.keep hbD; have hS := Str4.of hown; obtain ⟨gl, d0, d1, d2, d3⟩ := Str4.of hown; clear hown hb0) | (go_at_call 18; (first | refine (hcut.out _ hm1).onL ?_ | refine (hcut.out _ hm1).on ?_); intro xq))
  have hB13 : Below w1.heap.size w1 (later w1 xq).drew := bw_drew (later_below _ _)
  refine wp_region_C (Below (later w1 xq).drew.heap.size (later w1 xq).drew) (by kernel_rfl) ?_
  generalize (later w1 xq).drew = w3 at *
  have HF := Lib.hid (hF.keep hB13)
  have HS := Lib.hid (hS.keep hB13)
  clear gl d0 d1 d2 d3
  obtain ⟨gl, d0, d1, d2, d3⟩ := hS.keep hB13
  replace hbD := bw_trans hbD hB13
  replace ht1 := ht1.keep hB13
  replace he1 := he1.keep hB13
  replace hN1 := hN1.keep hB13
  clear hF hS hm1 hB13
  ((refine step_read (i := 0) (by kernel_rfl) (by kernel_rfl) rfl (by repeat (with_reducible first | exact hbD | exact Below.refl _ _ | refine bw_later ?_ _ | refine bw_alloc ?_ _ | refine bw_drew ?_ | refine bw_set ?_ (Nat.le_refl _) _ | refine bw_set ?_ ?_ _ | exact Nat.le_refl _ | exact later_size _ _ | refine Nat.le_trans ?_ (later_size _ _) | refine Nat.le_trans ?_ (size_alloc_le _ _) | refine Nat.le_trans ?_ (Nat.le_add_right _ _))) rfl (fun K hK => ?_); apply Exists.intro; refine ⟨fun x => ?_, ?_⟩; focus (go_simp; (try go_bits); (try go_simp); (try rfl))); (go_simp; (try go_bits); refine hK _ ?_; clear hK K); (refine step_read (i := 1) (by kernel_rfl) (by kernel_rfl) rfl (by repeat (with_reducible first | exact hbD | exact Below.refl _ _ | refine bw_later ?_ _ | refine bw_alloc ?_ _ | refine bw_drew ?_ | refine bw_set ?_ (Nat.le_refl _) _ | refine bw_set ?_ ?_ _ | exact Nat.le_refl _ | exact later_size _ _ | refine Nat.le_trans ?_ (later_size _ _) | refine Nat.le_trans ?_ (size_alloc_le _ _) | refine Nat.le_trans ?_ (Nat.le_add_right _ _))) rfl (fun K hK => ?_); apply Exists.intro; refine ⟨fun x => ?_, ?_⟩; focus (go_simp; (try go_bits); (try go_simp); (try rfl))); (go_simp; (try go_bits); refine hK _ ?_; clear hK K); (refine step_read (i := 2) (by kernel_rfl) (by kernel_rfl) rfl (by repeat (with_reducible first | exact hbD | exact Below.refl _ _ | refine bw_later ?_ _ | refine bw_alloc ?_ _ | refine bw_drew ?_ | refine bw_set ?_ (Nat.le_refl _) _ | refine bw_set ?_ ?_ _ | exact Nat.le_refl _ | exact later_size _ _ | refine Nat.le_trans ?_ (later_size _ _) | refine Nat.le_trans ?_ (size_alloc_le _ _) | refine Nat.le_trans ?_ (Nat.le_add_right _ _))) rfl (fun K hK => ?_); apply Exists.intro; refine ⟨fun x => ?_, ?_⟩; focus (go_simp; (try go_bits); (try go_simp); (try rfl))); (go_simp; (try go_bits); refine hK _ ?_; clear hK K); (refine step_read (i := 3) (by kernel_rfl) (by kernel_rfl) rfl (by repeat (with_reducible first | exact hbD | exact Below.refl _ _ | refine bw_later ?_ _ | refine bw_alloc ?_ _ | refine bw_drew ?_ | refine bw_set ?_ (Nat.le_refl _) _ | refine bw_set ?_ ?_ _ | exact Nat.le_refl _ | exact later_size _ _ | refine Nat.le_trans ?_ (later_size _ _) | refine Nat.le_trans ?_ (size_alloc_le _ _) | refine Nat.le_trans ?_ (Nat.le_add_right _ _))) rfl (fun K hK => ?_); apply Exists.intro; refine ⟨fun x => ?_, ?_⟩; focus (go_simp; (try go_bits); (try go_simp); (try rfl))); (go_simp; (try go_bits); refine hK _ ?_; clear hK K))
  (refine step_same (i := 4) (by kernel_rfl) (by kernel_rfl) rfl (by repeat (with_reducible first | exact hbD | exact Below.refl _ _ | refine bw_later ?_ _ | refine bw_alloc ?_ _ | refine bw_drew ?_ | refine bw_set ?_ (Nat.le_refl _) _ | refine bw_set ?_ ?_ _ | exact Nat.le_refl _ | exact later_size _ _ | refine Nat.le_trans ?_ (later_size _ _) | refine Nat.le_trans ?_ (size_alloc_le _ _) | refine Nat.le_trans ?_ (Nat.le_add_right _ _))) rfl (fun K hK => ?_); refine ⟨19, _, fun x => by go_simp; rfl, ?_⟩; refine ⟨_, fun x => hidx.out _ (hN1.later x), ?_⟩; go_simp; refine hK _ ?_; clear hK K)
  ((refine step_read (i := 5) (by kernel_rfl) (by kernel_rfl) rfl (by repeat (with_reducible first | exact hbD | exact Below.refl _ _ | refine bw_later ?_ _ | refine bw_alloc ?_ _ | refine bw_drew ?_ | refine bw_set ?_ (Nat.le_refl _) _ | refine bw_set ?_ ?_ _ | exact Nat.le_refl _ | exact later_size _ _ | refine Nat.le_trans ?_ (later_size _ _) | refine Nat.le_trans ?_ (size_alloc_le _ _) | refine Nat.le_trans ?_ (Nat.le_add_right _ _))) rfl (fun K hK => ?_); apply Exists.intro; refine ⟨fun x => ?_, ?_⟩; focus (go_simp; (try go_bits); (try go_simp); (try rfl))); (go_simp; (try go_bits); refine hK _ ?_; clear hK K))
  (refine step_one (i := 6) (by kernel_rfl) rfl (by repeat (with_reducible first | exact hbD | exact Below.refl _ _ | refine bw_later ?_ _ | refine bw_alloc ?_ _ | refine bw_drew ?_ | refine bw_set ?_ (Nat.le_refl _) _ | refine bw_set ?_ ?_ _ | exact Nat.le_refl _ | exact later_size _ _ | refine Nat.le_trans ?_ (later_size _ _) | refine Nat.le_trans ?_ (size_alloc_le _ _) | refine Nat.le_trans ?_ (Nat.le_add_right _ _))) (fun K hK => ?_); go_wp2; (try refine hK _ _ ?_); (try clear hK K))
  (refine step_one (i := 7) (by kernel_rfl) rfl (by repeat (with_reducible first | exact hbD | exact Below.refl _ _ | refine bw_later ?_ _ | refine bw_alloc ?_ _ | refine bw_drew ?_ | refine bw_set ?_ (Nat.le_refl _) _ | refine bw_set ?_ ?_ _ | exact Nat.le_refl _ | exact later_size _ _ | refine Nat.le_trans ?_ (later_size _ _) | refine Nat.le_trans ?_ (size_alloc_le _ _) | refine Nat.le_trans ?_ (Nat.le_add_right _ _))) (fun K hK => ?_); go_wp2; (try refine hK _ _ ?_); (try clear hK K))
  (refine step_end (by kernel_rfl) (by repeat (with_reducible first | exact hbD | exact Below.refl _ _ | refine bw_later ?_ _ | refine bw_alloc ?_ _ | refine bw_drew ?_ | refine bw_set ?_ (Nat.le_refl _) _ | refine bw_set ?_ ?_ _ | exact Nat.le_refl _ | exact later_size _ _ | refine Nat.le_trans ?_ (later_size _ _) | refine Nat.le_trans ?_ (size_alloc_le _ _) | refine Nat.le_trans ?_ (Nat.le_add_right _ _))) ?_)
  have HC := Lib.hid (Blk.new w3 (.int .i64 0) (.int .i64 0) (.int .i64 0) (.int .i64 d) (.int .i64 0) 26)
  have HB : Below w3.heap.size w3 (w3.alloc (.cells #[.int .i64 0, .int .i64 0, .int .i64 0, .int .i64 d, .int .i64 0] 26)) := bw_alloc (Below.refl _ _) _
  have hbc : w3.heap.size ≤ w3.heap.size := Nat.le_refl _
  have n1 : ¬ g = w3.heap.size := by have := HS.out.lt; omega
  have n2 : ¬ w3.heap.size = g := by omega
  have n3 : ¬ w.heap.size = w3.heap.size := by have := HF.out.lt; omega
  have n4 : ¬ w3.heap.size = w.heap.size := by omega
  clear gl d0 d1 d2 d3
  generalize w3.alloc (.cells #[.int .i64 0, .int .i64 0, .int .i64 0, .int .i64 d, .int .i64 0] 26) = wn at *
  obtain ⟨rl, r0, r1, r2, r3, r4, rf⟩ := HF.out.keep HB
  obtain ⟨gl, d0, d1, d2, d3⟩ := HS.out.keep HB
  obtain ⟨cl, c0, c1, c2, c3, c4, cf⟩ := HC.out
  cases hok : isCabin (⟨(readF (preX hd ⟨#[99, 97, 98, 105, 110, 32]⟩)).1, (readF (sufX sd ⟨#[32, 115, 101, 97, 116, 115]⟩)).1, (readF (sufX q ⟨#[32, 107, 103]⟩)).1, d, (readF (sufX u ⟨#[32, 116, 114, 105, 112, 115]⟩)).1⟩ : R5)
  · have hfin := Lib.hid (hno.out (by rw [hok]; simp))
    go_wp2_with (first
            | (go_at_call 20; refine (i_Parse_any _ _ (ht1.keep (by first | exact HB | exact bw_set HB hbc _)) (he1.keep (by first | exact HB | exact bw_set HB hbc _))).on ?_; intro xq; replace HB := bw_later (show Below w3.heap.size w3 _ from (by first | exact HB | exact bw_set HB hbc _)) xq; (first | (replace HC := Lib.hid (HC.out.later xq)) | (replace HC := Lib.hid ((HC.out.set0 _).later xq)) | (replace HC := Lib.hid ((HC.out.set1 _).later xq)) | (replace HC := Lib.hid ((HC.out.set2 _).later xq)) | (replace HC := Lib.hid ((HC.out.set4 _).later xq))); clear rl r0 r1 r2 r3 r4 rf gl d0 d1 d2 d3 cl c0 c1 c2 c3 c4 cf; generalize later _ xq = wn at *; obtain ⟨rl, r0, r1, r2, r3, r4, rf⟩ := HF.out.keep HB; obtain ⟨gl, d0, d1, d2, d3⟩ := HS.out.keep HB; obtain ⟨cl, c0, c1, c2, c3, c4, cf⟩ := HC.out)
            | (go_at_call 21; refine Calls.mono (preX_any _ _ _) ?_; rintro _ _ ⟨rfl, rfl⟩)
            | (go_at_call 22; refine Calls.mono (sufX_any _ _ (by first | exact z1 | exact z2 | exact z3) _) ?_; rintro _ _ ⟨rfl, rfl⟩)
            | (go_at_call 13; refine (impl_IsCabin_any (⟨(readF (preX hd ⟨#[99, 97, 98, 105, 110, 32]⟩)).1, (readF (sufX sd ⟨#[32, 115, 101, 97, 116, 115]⟩)).1, (readF (sufX q ⟨#[32, 107, 103]⟩)).1, d, (readF (sufX u ⟨#[32, 116, 114, 105, 112, 115]⟩)).1⟩ : R5) _).on ?_; intro xq; replace HB := bw_later (show Below w3.heap.size w3 _ from (by first | exact HB | exact bw_set HB hbc _)) xq; (first | (replace HC := Lib.hid (HC.out.later xq)) | (replace HC := Lib.hid ((HC.out.set0 _).later xq)) | (replace HC := Lib.hid ((HC.out.set1 _).later xq)) | (replace HC := Lib.hid ((HC.out.set2 _).later xq)) | (replace HC := Lib.hid ((HC.out.set4 _).later xq))); clear rl r0 r1 r2 r3 r4 rf gl d0 d1 d2 d3 cl c0 c1 c2 c3 c4 cf; generalize later _ xq = wn at *; obtain ⟨rl, r0, r1, r2, r3, r4, rf⟩ := HF.out.keep HB; obtain ⟨gl, d0, d1, d2, d3⟩ := HS.out.keep HB; obtain ⟨cl, c0, c1, c2, c3, c4, cf⟩ := HC.out))
    replace hbD := bw_trans hbD HB
    exact bodyPost_ret (v := .tuple #[.agg #[.int .i64 0, .int .i64 0, .int .i64 0, .int .i64 0, .int .i64 0], .bool false]) (by simp [results, Tryd.results9, go_sem, r0, r1, r2, r3, r4]) rfl ⟨by rw [hfin.out]; try rfl, (by repeat (with_reducible first | exact hbD | exact Below.refl _ _ | refine bw_later ?_ _ | refine bw_alloc ?_ _ | refine bw_drew ?_ | refine bw_set ?_ (Nat.le_refl _) _ | refine bw_set ?_ ?_ _ | exact Nat.le_refl _ | exact later_size _ _ | refine Nat.le_trans ?_ (later_size _ _) | refine Nat.le_trans ?_ (size_alloc_le _ _) | refine Nat.le_trans ?_ (Nat.le_add_right _ _)))⟩
  · cases hq : ((cabB (⟨(readF (preX hd ⟨#[99, 97, 98, 105, 110, 32]⟩)).1, (readF (sufX sd ⟨#[32, 115, 101, 97, 116, 115]⟩)).1, (readF (sufX q ⟨#[32, 107, 103]⟩)).1, d, (readF (sufX u ⟨#[32, 116, 114, 105, 112, 115]⟩)).1⟩ : R5)).toList == s.toList)
    · have hfin := Lib.hid (hno.out (by rw [str_eq] at hq; simp at hq; exact fun h => hq h.2))
      go_wp2_with (first
            | (go_at_call 20; refine (i_Parse_any _ _ (ht1.keep (by first | exact HB | exact bw_set HB hbc _)) (he1.keep (by first | exact HB | exact bw_set HB hbc _))).on ?_; intro xq; replace HB := bw_later (show Below w3.heap.size w3 _ from (by first | exact HB | exact bw_set HB hbc _)) xq; (first | (replace HC := Lib.hid (HC.out.later xq)) | (replace HC := Lib.hid ((HC.out.set0 _).later xq)) | (replace HC := Lib.hid ((HC.out.set1 _).later xq)) | (replace HC := Lib.hid ((HC.out.set2 _).later xq)) | (replace HC := Lib.hid ((HC.out.set4 _).later xq))); clear rl r0 r1 r2 r3 r4 rf gl d0 d1 d2 d3 cl c0 c1 c2 c3 c4 cf; generalize later _ xq = wn at *; obtain ⟨rl, r0, r1, r2, r3, r4, rf⟩ := HF.out.keep HB; obtain ⟨gl, d0, d1, d2, d3⟩ := HS.out.keep HB; obtain ⟨cl, c0, c1, c2, c3, c4, cf⟩ := HC.out)
            | (go_at_call 21; refine Calls.mono (preX_any _ _ _) ?_; rintro _ _ ⟨rfl, rfl⟩)
            | (go_at_call 22; refine Calls.mono (sufX_any _ _ (by first | exact z1 | exact z2 | exact z3) _) ?_; rintro _ _ ⟨rfl, rfl⟩)
            | (go_at_call 13; refine (impl_IsCabin_any (⟨(readF (preX hd ⟨#[99, 97, 98, 105, 110, 32]⟩)).1, (readF (sufX sd ⟨#[32, 115, 101, 97, 116, 115]⟩)).1, (readF (sufX q ⟨#[32, 107, 103]⟩)).1, d, (readF (sufX u ⟨#[32, 116, 114, 105, 112, 115]⟩)).1⟩ : R5) _).on ?_; intro xq; replace HB := bw_later (show Below w3.heap.size w3 _ from (by first | exact HB | exact bw_set HB hbc _)) xq; (first | (replace HC := Lib.hid (HC.out.later xq)) | (replace HC := Lib.hid ((HC.out.set0 _).later xq)) | (replace HC := Lib.hid ((HC.out.set1 _).later xq)) | (replace HC := Lib.hid ((HC.out.set2 _).later xq)) | (replace HC := Lib.hid ((HC.out.set4 _).later xq))); clear rl r0 r1 r2 r3 r4 rf gl d0 d1 d2 d3 cl c0 c1 c2 c3 c4 cf; generalize later _ xq = wn at *; obtain ⟨rl, r0, r1, r2, r3, r4, rf⟩ := HF.out.keep HB; obtain ⟨gl, d0, d1, d2, d3⟩ := HS.out.keep HB; obtain ⟨cl, c0, c1, c2, c3, c4, cf⟩ := HC.out)
            | (go_at_call 14; refine (i_cabinText_any (⟨(readF (preX hd ⟨#[99, 97, 98, 105, 110, 32]⟩)).1, (readF (sufX sd ⟨#[32, 115, 101, 97, 116, 115]⟩)).1, (readF (sufX q ⟨#[32, 107, 103]⟩)).1, d, (readF (sufX u ⟨#[32, 116, 114, 105, 112, 115]⟩)).1⟩ : R5) hok _ (ht1.keep (by first | exact HB | exact bw_set HB hbc _)) (hN1.keep (by first | exact HB | exact bw_set HB hbc _))).on ?_; intro xq; replace HB := bw_later (show Below w3.heap.size w3 _ from (by first | exact HB | exact bw_set HB hbc _)) xq; (first | (replace HC := Lib.hid (HC.out.later xq)) | (replace HC := Lib.hid ((HC.out.set0 _).later xq)) | (replace HC := Lib.hid ((HC.out.set1 _).later xq)) | (replace HC := Lib.hid ((HC.out.set2 _).later xq)) | (replace HC := Lib.hid ((HC.out.set4 _).later xq))); clear rl r0 r1 r2 r3 r4 rf gl d0 d1 d2 d3 cl c0 c1 c2 c3 c4 cf; generalize later _ xq = wn at *; obtain ⟨rl, r0, r1, r2, r3, r4, rf⟩ := HF.out.keep HB; obtain ⟨gl, d0, d1, d2, d3⟩ := HS.out.keep HB; obtain ⟨cl, c0, c1, c2, c3, c4, cf⟩ := HC.out))
      replace hbD := bw_trans hbD HB
      exact bodyPost_ret (v := .tuple #[.agg #[.int .i64 0, .int .i64 0, .int .i64 0, .int .i64 0, .int .i64 0], .bool false]) (by simp [results, Tryd.results9, go_sem, r0, r1, r2, r3, r4]) rfl ⟨by rw [hfin.out]; try rfl, (by repeat (with_reducible first | exact hbD | exact Below.refl _ _ | refine bw_later ?_ _ | refine bw_alloc ?_ _ | refine bw_drew ?_ | refine bw_set ?_ (Nat.le_refl _) _ | refine bw_set ?_ ?_ _ | exact Nat.le_refl _ | exact later_size _ _ | refine Nat.le_trans ?_ (later_size _ _) | refine Nat.le_trans ?_ (size_alloc_le _ _) | refine Nat.le_trans ?_ (Nat.le_add_right _ _)))⟩
    · have hfin := Lib.hid (hyes.out hok (by rw [str_eq] at hq; simpa using hq))
      go_wp2_with (first
            | (go_at_call 20; refine (i_Parse_any _ _ (ht1.keep (by first | exact HB | exact bw_set HB hbc _)) (he1.keep (by first | exact HB | exact bw_set HB hbc _))).on ?_; intro xq; replace HB := bw_later (show Below w3.heap.size w3 _ from (by first | exact HB | exact bw_set HB hbc _)) xq; (first | (replace HC := Lib.hid (HC.out.later xq)) | (replace HC := Lib.hid ((HC.out.set0 _).later xq)) | (replace HC := Lib.hid ((HC.out.set1 _).later xq)) | (replace HC := Lib.hid ((HC.out.set2 _).later xq)) | (replace HC := Lib.hid ((HC.out.set4 _).later xq))); clear rl r0 r1 r2 r3 r4 rf gl d0 d1 d2 d3 cl c0 c1 c2 c3 c4 cf; generalize later _ xq = wn at *; obtain ⟨rl, r0, r1, r2, r3, r4, rf⟩ := HF.out.keep HB; obtain ⟨gl, d0, d1, d2, d3⟩ := HS.out.keep HB; obtain ⟨cl, c0, c1, c2, c3, c4, cf⟩ := HC.out)
            | (go_at_call 21; refine Calls.mono (preX_any _ _ _) ?_; rintro _ _ ⟨rfl, rfl⟩)
            | (go_at_call 22; refine Calls.mono (sufX_any _ _ (by first | exact z1 | exact z2 | exact z3) _) ?_; rintro _ _ ⟨rfl, rfl⟩)
            | (go_at_call 13; refine (impl_IsCabin_any (⟨(readF (preX hd ⟨#[99, 97, 98, 105, 110, 32]⟩)).1, (readF (sufX sd ⟨#[32, 115, 101, 97, 116, 115]⟩)).1, (readF (sufX q ⟨#[32, 107, 103]⟩)).1, d, (readF (sufX u ⟨#[32, 116, 114, 105, 112, 115]⟩)).1⟩ : R5) _).on ?_; intro xq; replace HB := bw_later (show Below w3.heap.size w3 _ from (by first | exact HB | exact bw_set HB hbc _)) xq; (first | (replace HC := Lib.hid (HC.out.later xq)) | (replace HC := Lib.hid ((HC.out.set0 _).later xq)) | (replace HC := Lib.hid ((HC.out.set1 _).later xq)) | (replace HC := Lib.hid ((HC.out.set2 _).later xq)) | (replace HC := Lib.hid ((HC.out.set4 _).later xq))); clear rl r0 r1 r2 r3 r4 rf gl d0 d1 d2 d3 cl c0 c1 c2 c3 c4 cf; generalize later _ xq = wn at *; obtain ⟨rl, r0, r1, r2, r3, r4, rf⟩ := HF.out.keep HB; obtain ⟨gl, d0, d1, d2, d3⟩ := HS.out.keep HB; obtain ⟨cl, c0, c1, c2, c3, c4, cf⟩ := HC.out)
            | (go_at_call 14; refine (i_cabinText_any (⟨(readF (preX hd ⟨#[99, 97, 98, 105, 110, 32]⟩)).1, (readF (sufX sd ⟨#[32, 115, 101, 97, 116, 115]⟩)).1, (readF (sufX q ⟨#[32, 107, 103]⟩)).1, d, (readF (sufX u ⟨#[32, 116, 114, 105, 112, 115]⟩)).1⟩ : R5) hok _ (ht1.keep (by first | exact HB | exact bw_set HB hbc _)) (hN1.keep (by first | exact HB | exact bw_set HB hbc _))).on ?_; intro xq; replace HB := bw_later (show Below w3.heap.size w3 _ from (by first | exact HB | exact bw_set HB hbc _)) xq; (first | (replace HC := Lib.hid (HC.out.later xq)) | (replace HC := Lib.hid ((HC.out.set0 _).later xq)) | (replace HC := Lib.hid ((HC.out.set1 _).later xq)) | (replace HC := Lib.hid ((HC.out.set2 _).later xq)) | (replace HC := Lib.hid ((HC.out.set4 _).later xq))); clear rl r0 r1 r2 r3 r4 rf gl d0 d1 d2 d3 cl c0 c1 c2 c3 c4 cf; generalize later _ xq = wn at *; obtain ⟨rl, r0, r1, r2, r3, r4, rf⟩ := HF.out.keep HB; obtain ⟨gl, d0, d1, d2, d3⟩ := HS.out.keep HB; obtain ⟨cl, c0, c1, c2, c3, c4, cf⟩ := HC.out))
      replace hbD := bw_trans hbD HB
      exact bodyPost_ret (v := .tuple #[.agg #[.int .i64 (readF (preX hd ⟨#[99, 97, 98, 105, 110, 32]⟩)).1, .int .i64 (readF (sufX sd ⟨#[32, 115, 101, 97, 116, 115]⟩)).1, .int .i64 (readF (sufX q ⟨#[32, 107, 103]⟩)).1, .int .i64 d, .int .i64 (readF (sufX u ⟨#[32, 116, 114, 105, 112, 115]⟩)).1], .bool true]) (by simp [results, Tryd.results9, go_sem, r0, r1, r2, r3, r4]) rfl ⟨by rw [hfin.out]; try rfl, (by repeat (with_reducible first | exact hbD | exact Below.refl _ _ | refine bw_later ?_ _ | refine bw_alloc ?_ _ | refine bw_drew ?_ | refine bw_set ?_ (Nat.le_refl _) _ | refine bw_set ?_ ?_ _ | exact Nat.le_refl _ | exact later_size _ _ | refine Nat.le_trans ?_ (later_size _ _) | refine Nat.le_trans ?_ (size_alloc_le _ _) | refine Nat.le_trans ?_ (Nat.le_add_right _ _)))⟩
end Go.Proofs.YtnibhaabhjgmgaaDoor
