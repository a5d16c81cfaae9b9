/- The steepest span: the program's walk, the law. -/
import Derived.Test.YtfhggmjmhfafcaaSteep
import Derived.Test.YtfhggmjmhfafcaaBoxed
namespace Go.Proofs.Ytfhggmjmhfafcaa
open Go Go.RowKit
theorem Cw.set {w w' : World} {b : Nat} {cs : Array Value} {t : TypeId} (h : Cw w b cs t w') {g i : Nat} (h1 : w.heap.size ≤ g) (h2 : b ≠ g) (u : Value) : Cw w b cs t (w'.setCell ⟨g, i, none⟩ u) :=
  ⟨bw_set h.below h1 u, (Below.heap_setCell w' ⟨g, i, none⟩ u b h2).trans h.blk⟩
theorem put_two {w : World} {g : Nat} {a b : Value} {t : TypeId} (h : w.heap[g]? = some (.cells #[a, b] t (0, 0))) (u v : Value) : ((w.setCell ⟨g, 0, none⟩ u).setCell ⟨g, 1, none⟩ v).heap[g]? = some (.cells #[u, v] t (0, 0)) := by
  simp [World.setCell, Array.getElem?_modify, h]
theorem cell_same_heap {w w' : World} {g i : Nat} (h : w'.heap[g]? = w.heap[g]?) : w'.cell? ⟨g, i, none⟩ = w.cell? ⟨g, i, none⟩ := by simp [World.cell?, h]
theorem dist2_same (a b : Int) (h1 : 0 ≤ a) (h2 : a ≤ 2000) (h3 : 0 ≤ b) (h4 : b ≤ 2000) (w : World) : Calls Try.prog 52 #[.int .i64 a, .int .i64 b] w fun e w' => e = .returned (.int .i64 (rdist a b)) ∧ w' = w := by
  go_enter Try.func52, Try.ntmps52
  go_wp2
  all_goals
    go_ret
    refine ⟨ret_int ?_, rfl⟩
    unfold rdist most
    split <;> omega
theorem cmpZ_any (n1 n2 d1 d2 : Int) (a1 : -4611686018427387904 ≤ n1) (a2 : n1 ≤ 4611686018427387904) (a3 : -4611686018427387904 ≤ n2) (a4 : n2 ≤ 4611686018427387904) (b1 : 1 ≤ d1) (b2 : d1 ≤ 4611686018427387904) (b3 : 1 ≤ d2) (b4 : d2 ≤ 4611686018427387904) (w : World) :
    Gv Try.prog 53 #[.agg #[.int .i64 n1, .int .i64 d1], .agg #[.int .i64 n2, .int .i64 d2]] w (.int .i64 (cmpI (n1 * d2) (n2 * d1))) := by
  obtain ⟨e1, rfl⟩ := Int.eq_ofNat_of_zero_le (show 0 ≤ d1 by omega)
  obtain ⟨e2, rfl⟩ := Int.eq_ofNat_of_zero_le (show 0 ≤ d2 by omega)
  exact cmp_any n1 n2 e1 e2 a1 a2 a3 a4 (by omega) (by omega) (by omega) (by omega) w
/-- The program's state after k spans: the best, its fraction. -/
def StAt (xs : List Sup) (k : Nat) (B N D : Int) : Prop := (k = 0 → B = 0 ∧ N = -1 ∧ D = 1) ∧ (0 < k → B = (stB xs k : Int) ∧ N = rN xs (stB xs k) ∧ D = rD xs (stB xs k))
theorem stAt_yes {xs : List Sup} {k : Nat} {B N D : Int} (h : StAt xs k B N D) (hlt : N * rD xs k < rN xs k * D) : StAt xs (k + 1) (k : Int) (rN xs k) (rD xs k) := by
  refine ⟨fun h => absurd h (by omega), fun _ => ?_⟩
  rcases Nat.eq_zero_or_pos k with h0 | h0
  · subst h0
    rw [st_one]
    exact ⟨rfl, rfl, rfl⟩
  · obtain ⟨e1, e2, e3⟩ := h.2 h0
    rw [e2, e3] at hlt
    rw [st_yes hlt]
    exact ⟨rfl, rfl, rfl⟩
theorem stAt_no {xs : List Sup} {k : Nat} {B N D : Int} (h : StAt xs k B N D) (hN : 0 ≤ rN xs k) (hD : 1 ≤ rD xs k) (hlt : ¬ N * rD xs k < rN xs k * D) : StAt xs (k + 1) B N D := by
  refine ⟨fun h => absurd h (by omega), fun _ => ?_⟩
  rcases Nat.eq_zero_or_pos k with h0 | h0
  · obtain ⟨e1, e2, e3⟩ := h.1 h0
    subst e2
    subst e3
    exact absurd (by omega) hlt
  · obtain ⟨e1, e2, e3⟩ := h.2 h0
    rw [e2, e3] at hlt
    rw [st_no hlt]
    exact ⟨e1, e2, e3⟩
theorem cmp_gt (p q : Int) : decide (0 < cmpI p q) = decide (q < p) := by
  unfold cmpI
  (repeat' split) <;> simp <;> omega
set_option maxHeartbeats 4000000 in
theorem i_SteepestSpan_any (g off n c : Nat) (xs : List Sup) (w : World) (hs : SSup w g off n xs) (hn : n ≤ 1048576) : Gv Try.prog 34 #[.slice (some ⟨g, off, none⟩) n c] w (.tuple #[.int .i64 ((steepF xs)).1, .bool ((steepF xs)).2]) := by
  unfold Gv
  cases h0 : okLine xs
  · have hfin := Lib.hid (show steepF xs = (0, false) by simp [steepF, h0])
    go_enter Try.func34, Try.ntmps34
    go_wp2_with (first | (go_at_call 14; (first | refine (impl_IsLine_any g off n c xs _ (by first | exact hs | exact hs.later _ | exact hs.alloc _ | exact (hs.alloc _).later _ | exact (hs.later _).alloc _ | exact ((hs.later _).alloc _).later _ | exact ((hs.alloc _).later _).alloc _ | exact (hs.alloc _).alloc _ | exact ((hs.alloc _).alloc _).later _ | exact (((hs.alloc _).later _).alloc _).later _) hn).onL ?_ | refine (impl_IsLine_any g off n c xs _ (by first | exact hs | exact hs.later _ | exact hs.alloc _ | exact (hs.alloc _).later _ | exact (hs.later _).alloc _ | exact ((hs.later _).alloc _).later _ | exact ((hs.alloc _).later _).alloc _ | exact (hs.alloc _).alloc _ | exact ((hs.alloc _).alloc _).later _ | exact (((hs.alloc _).later _).alloc _).later _) hn).on ?_); intro xq))
    all_goals (go_ret2; exact ⟨by rw [hfin.out]; try rfl, (by repeat (with_reducible first | exact Below.refl _ _ | refine bw_later ?_ _ | refine bw_alloc ?_ _ | refine bw_drew ?_ | refine bw_set ?_ (Nat.le_refl _) _ | refine bw_set ?_ ?_ _ | exact Nat.le_refl _ | exact later_size _ _ | refine Nat.le_trans ?_ (later_size _ _) | refine Nat.le_trans ?_ (size_alloc_le _ _) | refine Nat.le_trans ?_ (Nat.le_add_right _ _)))⟩)
  have hfin := Lib.hid (show steepF xs = ((stB xs (n - 1) : Int), true) by simp [steepF, h0, hs.2.1])
  have hle := Lib.hid hs.2.1
  have hg := hs.1
  have hL := line_ok h0
  have h28 := hL.len
  rw [hs.2.1] at h28
  go_enter Try.func34, Try.ntmps34
  go_wp2_with (first | (go_at_call 14; (first | refine (impl_IsLine_any g off n c xs _ (by first | exact hs | exact hs.later _ | exact hs.alloc _ | exact (hs.alloc _).later _ | exact (hs.later _).alloc _ | exact ((hs.later _).alloc _).later _ | exact ((hs.alloc _).later _).alloc _ | exact (hs.alloc _).alloc _ | exact ((hs.alloc _).alloc _).later _ | exact (((hs.alloc _).later _).alloc _).later _) hn).onL ?_ | refine (impl_IsLine_any g off n c xs _ (by first | exact hs | exact hs.later _ | exact hs.alloc _ | exact (hs.alloc _).later _ | exact (hs.later _).alloc _ | exact ((hs.later _).alloc _).later _ | exact ((hs.alloc _).later _).alloc _ | exact (hs.alloc _).alloc _ | exact ((hs.alloc _).alloc _).later _ | exact (((hs.alloc _).later _).alloc _).later _) hn).on ?_); intro xq) | (go_at_call 44; refine Calls.mono (i_spanLengths_any g off n c xs _ (by first | exact hs | exact hs.later _ | exact hs.alloc _ | exact (hs.alloc _).later _ | exact (hs.later _).alloc _ | exact ((hs.later _).alloc _).later _ | exact ((hs.alloc _).later _).alloc _ | exact (hs.alloc _).alloc _ | exact ((hs.alloc _).alloc _).later _ | exact (((hs.alloc _).later _).alloc _).later _) hL) ?_; rintro _ w1 ⟨A1, m1, d1, rfl, hO1, l1, b1⟩))
  have hm1 : m1 = n - 1 := by have := hO1.1; rw [lens_len] at this; exact this.symm
  subst hm1
  obtain ⟨gL, rfl, q1, q2, q3, -, q4⟩ := hO1.cells (by omega)
  have hgM := later_size w xq
  generalize hW : (later w xq).heap.size = gM at hgM q1 b1 ⊢
  have q5 : gM < gL := by have : ((later w xq).alloc (.cells #[.int .i64 (-1), .int .i64 1] 59)).heap.size = gM + 1 := by simp [hW]
                          omega
  have hM1 : w1.heap[gM]? = some (.cells #[.int .i64 (-1), .int .i64 1] 59 (0, 0)) := by
    rw [b1.block gM (by simp [hW])]
    rw [← hW]
    exact heap_alloc_new _ _
  have hbw1 : Below w.heap.size w w1 := bw_trans (by repeat (with_reducible first | exact Below.refl _ _ | refine bw_later ?_ _ | refine bw_alloc ?_ _ | refine bw_drew ?_ | refine bw_set ?_ (Nat.le_refl _) _ | refine bw_set ?_ ?_ _ | exact Nat.le_refl _ | exact later_size _ _ | refine Nat.le_trans ?_ (later_size _ _) | refine Nat.le_trans ?_ (size_alloc_le _ _) | refine Nat.le_trans ?_ (Nat.le_add_right _ _))) b1
  clear b1 hO1 q1
  clear h0
  go_loopw [4, 16] (fun b i wr => ∃ (k : Nat) (B N D : Int), Below w.heap.size w wr ∧ k ≤ n - 1 ∧ i = .int .i64 (k : Int) ∧ b = .int .i64 B ∧ wr.heap[gM]? = some (.cells #[.int .i64 N, .int .i64 D] 59 (0, 0)) ∧ wr.heap[gL]? = w1.heap[gL]? ∧ (-1 ≤ N ∧ N ≤ 2000) ∧ (1 ≤ D ∧ D ≤ 3000) ∧ Hid (StAt xs k B N D)) (fun _ i _ => n - (intOf i).toNat)
  case atStart => exact ⟨0, 0, -1, 1, hbw1, by omega, rfl, rfl, hM1, rfl, by omega, by omega, Lib.hid ⟨fun _ => ⟨rfl, rfl, rfl⟩, fun h => absurd h (by omega)⟩⟩
  case round =>
    obtain ⟨k, B, N, D, hbw, hk, rfl, rfl, hM, hLk, ⟨n1, n2⟩, ⟨d1', d2'⟩, hst⟩ := hrel
    have hsr := hs.below hg hbw
    by_cases hlt : k < n - 1
    · obtain ⟨r, hr0⟩ := hs.at_ (k := k + 1) (by omega)
      obtain ⟨q, hq0⟩ := hs.at_ (k := k) (by omega)
      obtain ⟨r1, r2, -⟩ := hsr.2.2 (k + 1) r hr0
      obtain ⟨p1, p2, -⟩ := hsr.2.2 k q hq0
      obtain ⟨⟨d1, d2⟩, d3, d4⟩ := hL.bd _ _ hr0
      obtain ⟨⟨d5, d6⟩, d7, d8⟩ := hL.bd _ _ hq0
      have hup := hL.up _ _ _ hq0 hr0
      have e1 : rN xs k = rdist q.h r.h := by simp only [rN, hAt_of hr0, hAt_of hq0]
      have e2 : rD xs k = r.at_ - q.at_ := by simp only [rD, atAt_of hr0, atAt_of hq0]
      have hrd : 0 ≤ rdist q.h r.h ∧ rdist q.h r.h ≤ 2000 := by unfold rdist most; split <;> omega
      obtain ⟨hrd1, hrd2⟩ := hrd
      have hc0 : wr.cell? ⟨gL, k, none⟩ = some (.int .i64 (r.at_ - q.at_)) := by rw [cell_same_heap hLk, q4 k _ (lens_at xs hlt)]; rw [← e2]; rfl
      have hgMl : gM < wr.heap.size := (Array.getElem?_eq_some_iff.1 hM).1
      have hgLl : gL < wr.heap.size := by
        rw [hLk.symm] at *
        exact Nat.lt_of_lt_of_le (World.block_lt_of_cell? wr _ hc0) (Nat.le_refl _)
      have hgr := hsr.1
      have hm0 : wr.cell? ⟨gM, 0, none⟩ = some (.int .i64 N) := by rw [cell_of_row wr gM 0 _ _ (0, 0) hM]; rfl
      have hm1 : wr.cell? ⟨gM, 1, none⟩ = some (.int .i64 D) := by rw [cell_of_row wr gM 1 _ _ (0, 0) hM]; rfl
      have hmf : ∀ i, wr.frozen? ⟨gM, i, none⟩ = false := fun i => by simp [World.frozen?, hM]
      have iw : IntKind.i64.wrap ((k : Int) + 1) = (k : Int) + 1 := Go.IntWalk.i64_in _ (by omega)
      have i1 : (0 : Int) ≤ (k : Int) + 1 := by omega
      have i2 : (k : Int) + 1 < (n : Int) := by omega
      have i3 : (k : Int) < (n : Int) := by omega
      have i4 : k < n := by omega
      have i5 : k + 1 < n := by omega
      have i6 : (k : Int) < ((n - 1 : Nat) : Int) := by omega
      have E1 := Lib.hid e1
      have E2 := Lib.hid e2
      have HM := Lib.hid hM
      have HL := Lib.hid hLk
      clear hr0 hq0 e1 e2 hM hLk
      have hgt := cmp_gt (rdist q.h r.h * D) (N * (r.at_ - q.at_))
      cases hp : decide (N * (r.at_ - q.at_) < rdist q.h r.h * D)
      · rw [hp] at hgt
        have HP := Lib.hid (of_decide_eq_false hp)
        clear hp
        go_wp2
        (refine wp_region_C (Below (wr).heap.size (wr)) (by kernel_rfl) ?_)
        ((refine step_read (i := 0) (by kernel_rfl) (by kernel_rfl) rfl (by repeat (with_reducible first | exact Below.refl _ _ | refine bw_later ?_ _ | refine bw_alloc ?_ _ | refine bw_drew ?_ | refine bw_set ?_ (Nat.le_refl _) _ | refine bw_set ?_ ?_ _ | exact Nat.le_refl _ | exact later_size _ _ | refine Nat.le_trans ?_ (later_size _ _) | refine Nat.le_trans ?_ (size_alloc_le _ _) | refine Nat.le_trans ?_ (Nat.le_add_right _ _))) rfl (fun K hK => ?_); apply Exists.intro; refine ⟨fun x => ?_, ?_⟩; focus (go_simp; (try go_bits); (try go_simp); (try rfl))); (go_simp; (try go_bits); refine hK _ ?_; clear hK K); (refine step_read (i := 1) (by kernel_rfl) (by kernel_rfl) rfl (by repeat (with_reducible first | exact Below.refl _ _ | refine bw_later ?_ _ | refine bw_alloc ?_ _ | refine bw_drew ?_ | refine bw_set ?_ (Nat.le_refl _) _ | refine bw_set ?_ ?_ _ | exact Nat.le_refl _ | exact later_size _ _ | refine Nat.le_trans ?_ (later_size _ _) | refine Nat.le_trans ?_ (size_alloc_le _ _) | refine Nat.le_trans ?_ (Nat.le_add_right _ _))) rfl (fun K hK => ?_); apply Exists.intro; refine ⟨fun x => ?_, ?_⟩; focus (go_simp; (try go_bits); (try go_simp); (try rfl))); (go_simp; (try go_bits); refine hK _ ?_; clear hK K); (refine step_read (i := 2) (by kernel_rfl) (by kernel_rfl) rfl (by repeat (with_reducible first | exact Below.refl _ _ | refine bw_later ?_ _ | refine bw_alloc ?_ _ | refine bw_drew ?_ | refine bw_set ?_ (Nat.le_refl _) _ | refine bw_set ?_ ?_ _ | exact Nat.le_refl _ | exact later_size _ _ | refine Nat.le_trans ?_ (later_size _ _) | refine Nat.le_trans ?_ (size_alloc_le _ _) | refine Nat.le_trans ?_ (Nat.le_add_right _ _))) rfl (fun K hK => ?_); apply Exists.intro; refine ⟨fun x => ?_, ?_⟩; focus (go_simp; (try go_bits); (try go_simp); (try rfl))); (go_simp; (try go_bits); refine hK _ ?_; clear hK K); (refine step_read (i := 3) (by kernel_rfl) (by kernel_rfl) rfl (by repeat (with_reducible first | exact Below.refl _ _ | refine bw_later ?_ _ | refine bw_alloc ?_ _ | refine bw_drew ?_ | refine bw_set ?_ (Nat.le_refl _) _ | refine bw_set ?_ ?_ _ | exact Nat.le_refl _ | exact later_size _ _ | refine Nat.le_trans ?_ (later_size _ _) | refine Nat.le_trans ?_ (size_alloc_le _ _) | refine Nat.le_trans ?_ (Nat.le_add_right _ _))) rfl (fun K hK => ?_); apply Exists.intro; refine ⟨fun x => ?_, ?_⟩; focus (go_simp; (try go_bits); (try go_simp); (try rfl))); (go_simp; (try go_bits); refine hK _ ?_; clear hK K); (refine step_read (i := 4) (by kernel_rfl) (by kernel_rfl) rfl (by repeat (with_reducible first | exact Below.refl _ _ | refine bw_later ?_ _ | refine bw_alloc ?_ _ | refine bw_drew ?_ | refine bw_set ?_ (Nat.le_refl _) _ | refine bw_set ?_ ?_ _ | exact Nat.le_refl _ | exact later_size _ _ | refine Nat.le_trans ?_ (later_size _ _) | refine Nat.le_trans ?_ (size_alloc_le _ _) | refine Nat.le_trans ?_ (Nat.le_add_right _ _))) rfl (fun K hK => ?_); apply Exists.intro; refine ⟨fun x => ?_, ?_⟩; focus (go_simp; (try go_bits); (try go_simp); (try rfl))); (go_simp; (try go_bits); refine hK _ ?_; clear hK K); (refine step_read (i := 5) (by kernel_rfl) (by kernel_rfl) rfl (by repeat (with_reducible first | exact Below.refl _ _ | refine bw_later ?_ _ | refine bw_alloc ?_ _ | refine bw_drew ?_ | refine bw_set ?_ (Nat.le_refl _) _ | refine bw_set ?_ ?_ _ | exact Nat.le_refl _ | exact later_size _ _ | refine Nat.le_trans ?_ (later_size _ _) | refine Nat.le_trans ?_ (size_alloc_le _ _) | refine Nat.le_trans ?_ (Nat.le_add_right _ _))) rfl (fun K hK => ?_); apply Exists.intro; refine ⟨fun x => ?_, ?_⟩; focus (go_simp; (try go_bits); (try go_simp); (try rfl))); (go_simp; (try go_bits); refine hK _ ?_; clear hK K); (refine step_read (i := 6) (by kernel_rfl) (by kernel_rfl) rfl (by repeat (with_reducible first | exact Below.refl _ _ | refine bw_later ?_ _ | refine bw_alloc ?_ _ | refine bw_drew ?_ | refine bw_set ?_ (Nat.le_refl _) _ | refine bw_set ?_ ?_ _ | exact Nat.le_refl _ | exact later_size _ _ | refine Nat.le_trans ?_ (later_size _ _) | refine Nat.le_trans ?_ (size_alloc_le _ _) | refine Nat.le_trans ?_ (Nat.le_add_right _ _))) rfl (fun K hK => ?_); apply Exists.intro; refine ⟨fun x => ?_, ?_⟩; focus (go_simp; (try go_bits); (try go_simp); (try rfl))); (go_simp; (try go_bits); refine hK _ ?_; clear hK K); (refine step_read (i := 7) (by kernel_rfl) (by kernel_rfl) rfl (by repeat (with_reducible first | exact Below.refl _ _ | refine bw_later ?_ _ | refine bw_alloc ?_ _ | refine bw_drew ?_ | refine bw_set ?_ (Nat.le_refl _) _ | refine bw_set ?_ ?_ _ | exact Nat.le_refl _ | exact later_size _ _ | refine Nat.le_trans ?_ (later_size _ _) | refine Nat.le_trans ?_ (size_alloc_le _ _) | refine Nat.le_trans ?_ (Nat.le_add_right _ _))) rfl (fun K hK => ?_); apply Exists.intro; refine ⟨fun x => ?_, ?_⟩; focus (go_simp; (try go_bits); (try go_simp); (try rfl))); (go_simp; (try go_bits); refine hK _ ?_; clear hK K); (refine step_read (i := 8) (by kernel_rfl) (by kernel_rfl) rfl (by repeat (with_reducible first | exact Below.refl _ _ | refine bw_later ?_ _ | refine bw_alloc ?_ _ | refine bw_drew ?_ | refine bw_set ?_ (Nat.le_refl _) _ | refine bw_set ?_ ?_ _ | exact Nat.le_refl _ | exact later_size _ _ | refine Nat.le_trans ?_ (later_size _ _) | refine Nat.le_trans ?_ (size_alloc_le _ _) | refine Nat.le_trans ?_ (Nat.le_add_right _ _))) rfl (fun K hK => ?_); apply Exists.intro; refine ⟨fun x => ?_, ?_⟩; focus (go_simp; (try go_bits); (try go_simp); (try rfl))); (go_simp; (try go_bits); refine hK _ ?_; clear hK K); (refine step_read (i := 9) (by kernel_rfl) (by kernel_rfl) rfl (by repeat (with_reducible first | exact Below.refl _ _ | refine bw_later ?_ _ | refine bw_alloc ?_ _ | refine bw_drew ?_ | refine bw_set ?_ (Nat.le_refl _) _ | refine bw_set ?_ ?_ _ | exact Nat.le_refl _ | exact later_size _ _ | refine Nat.le_trans ?_ (later_size _ _) | refine Nat.le_trans ?_ (size_alloc_le _ _) | refine Nat.le_trans ?_ (Nat.le_add_right _ _))) rfl (fun K hK => ?_); apply Exists.intro; refine ⟨fun x => ?_, ?_⟩; focus (go_simp; (try go_bits); (try go_simp); (try rfl))); (go_simp; (try go_bits); refine hK _ ?_; clear hK K); (refine step_read (i := 10) (by kernel_rfl) (by kernel_rfl) rfl (by repeat (with_reducible first | exact Below.refl _ _ | refine bw_later ?_ _ | refine bw_alloc ?_ _ | refine bw_drew ?_ | refine bw_set ?_ (Nat.le_refl _) _ | refine bw_set ?_ ?_ _ | exact Nat.le_refl _ | exact later_size _ _ | refine Nat.le_trans ?_ (later_size _ _) | refine Nat.le_trans ?_ (size_alloc_le _ _) | refine Nat.le_trans ?_ (Nat.le_add_right _ _))) rfl (fun K hK => ?_); apply Exists.intro; refine ⟨fun x => ?_, ?_⟩; focus (go_simp; (try go_bits); (try go_simp); (try rfl))); (go_simp; (try go_bits); refine hK _ ?_; clear hK K))
        (refine step_same (i := 11) (by kernel_rfl) (by kernel_rfl) rfl (by repeat (with_reducible first | exact Below.refl _ _ | refine bw_later ?_ _ | refine bw_alloc ?_ _ | refine bw_drew ?_ | refine bw_set ?_ (Nat.le_refl _) _ | refine bw_set ?_ ?_ _ | exact Nat.le_refl _ | exact later_size _ _ | refine Nat.le_trans ?_ (later_size _ _) | refine Nat.le_trans ?_ (size_alloc_le _ _) | refine Nat.le_trans ?_ (Nat.le_add_right _ _))) rfl (fun K hK => ?_); refine ⟨52, _, fun x => by go_simp; rfl, ?_⟩; refine ⟨_, fun x => dist2_same q.h r.h d7 d8 d3 d4 _, ?_⟩; go_simp; refine hK _ ?_; clear hK K)
        ((refine step_read (i := 12) (by kernel_rfl) (by kernel_rfl) rfl (by repeat (with_reducible first | exact Below.refl _ _ | refine bw_later ?_ _ | refine bw_alloc ?_ _ | refine bw_drew ?_ | refine bw_set ?_ (Nat.le_refl _) _ | refine bw_set ?_ ?_ _ | exact Nat.le_refl _ | exact later_size _ _ | refine Nat.le_trans ?_ (later_size _ _) | refine Nat.le_trans ?_ (size_alloc_le _ _) | refine Nat.le_trans ?_ (Nat.le_add_right _ _))) rfl (fun K hK => ?_); apply Exists.intro; refine ⟨fun x => ?_, ?_⟩; focus (go_simp; (try go_bits); (try go_simp); (try rfl))); (go_simp; (try go_bits); refine hK _ ?_; clear hK K); (refine step_read (i := 13) (by kernel_rfl) (by kernel_rfl) rfl (by repeat (with_reducible first | exact Below.refl _ _ | refine bw_later ?_ _ | refine bw_alloc ?_ _ | refine bw_drew ?_ | refine bw_set ?_ (Nat.le_refl _) _ | refine bw_set ?_ ?_ _ | exact Nat.le_refl _ | exact later_size _ _ | refine Nat.le_trans ?_ (later_size _ _) | refine Nat.le_trans ?_ (size_alloc_le _ _) | refine Nat.le_trans ?_ (Nat.le_add_right _ _))) rfl (fun K hK => ?_); apply Exists.intro; refine ⟨fun x => ?_, ?_⟩; focus (go_simp; (try go_bits); (try go_simp); (try rfl))); (go_simp; (try go_bits); refine hK _ ?_; clear hK K))
        (refine step_one (i := 14) (by kernel_rfl) rfl (by repeat (with_reducible first | exact Below.refl _ _ | refine bw_later ?_ _ | refine bw_alloc ?_ _ | refine bw_drew ?_ | refine bw_set ?_ (Nat.le_refl _) _ | refine bw_set ?_ ?_ _ | exact Nat.le_refl _ | exact later_size _ _ | refine Nat.le_trans ?_ (later_size _ _) | refine Nat.le_trans ?_ (size_alloc_le _ _) | refine Nat.le_trans ?_ (Nat.le_add_right _ _))) (fun K hK => ?_); go_wp2; (try refine hK _ _ ?_); (try clear hK K))
        (refine step_one (i := 15) (by kernel_rfl) rfl (by repeat (with_reducible first | exact Below.refl _ _ | refine bw_later ?_ _ | refine bw_alloc ?_ _ | refine bw_drew ?_ | refine bw_set ?_ (Nat.le_refl _) _ | refine bw_set ?_ ?_ _ | exact Nat.le_refl _ | exact later_size _ _ | refine Nat.le_trans ?_ (later_size _ _) | refine Nat.le_trans ?_ (size_alloc_le _ _) | refine Nat.le_trans ?_ (Nat.le_add_right _ _))) (fun K hK => ?_); go_wp2; (try refine hK _ _ ?_); (try clear hK K))
        (refine step_end (by kernel_rfl) (by repeat (with_reducible first | exact Below.refl _ _ | refine bw_later ?_ _ | refine bw_alloc ?_ _ | refine bw_drew ?_ | refine bw_set ?_ (Nat.le_refl _) _ | refine bw_set ?_ ?_ _ | exact Nat.le_refl _ | exact later_size _ _ | refine Nat.le_trans ?_ (later_size _ _) | refine Nat.le_trans ?_ (size_alloc_le _ _) | refine Nat.le_trans ?_ (Nat.le_add_right _ _))) ?_)
        have hnew : Hid (wr.heap.size = wr.heap.size) := Lib.hid rfl
        go_wp2_with (go_at_call 53; refine (cmpZ_any (rdist q.h r.h) N (r.at_ - q.at_) D (by omega) (by omega) (by omega) (by omega) (by omega) (by omega) (by omega) (by omega) _).on ?_; intro xq)

        go_roundw
        case rel => exact ⟨k + 1, B, N, D, (by repeat (with_reducible first | exact hbw | exact hcw.below | exact Below.refl _ _ | refine bw_later ?_ _ | refine bw_alloc ?_ _ | refine bw_drew ?_ | refine bw_set ?_ hgM _)), by omega, by go_num, rfl, ((later_below _ xq).block gM (by simp; omega)).trans ((Below.heap_alloc wr _ gM hgMl).trans HM.out), ((later_below _ xq).block gL (by simp; omega)).trans ((Below.heap_alloc wr _ gL hgLl).trans HL.out), ⟨n1, n2⟩, ⟨d1', d2'⟩, Lib.hid (stAt_no hst.out (by rw [E1.out]; omega) (by rw [E2.out]; omega) (by rw [E1.out, E2.out]; exact Int.not_lt.2 HP.out))⟩
        case measure => simp [intOf]; omega
      · rw [hp] at hgt
        have HP := Lib.hid (of_decide_eq_true hp)
        clear hp
        go_wp2
        (refine wp_region_C (Below (wr).heap.size (wr)) (by kernel_rfl) ?_)
        ((refine step_read (i := 0) (by kernel_rfl) (by kernel_rfl) rfl (by repeat (with_reducible first | exact Below.refl _ _ | refine bw_later ?_ _ | refine bw_alloc ?_ _ | refine bw_drew ?_ | refine bw_set ?_ (Nat.le_refl _) _ | refine bw_set ?_ ?_ _ | exact Nat.le_refl _ | exact later_size _ _ | refine Nat.le_trans ?_ (later_size _ _) | refine Nat.le_trans ?_ (size_alloc_le _ _) | refine Nat.le_trans ?_ (Nat.le_add_right _ _))) rfl (fun K hK => ?_); apply Exists.intro; refine ⟨fun x => ?_, ?_⟩; focus (go_simp; (try go_bits); (try go_simp); (try rfl))); (go_simp; (try go_bits); refine hK _ ?_; clear hK K); (refine step_read (i := 1) (by kernel_rfl) (by kernel_rfl) rfl (by repeat (with_reducible first | exact Below.refl _ _ | refine bw_later ?_ _ | refine bw_alloc ?_ _ | refine bw_drew ?_ | refine bw_set ?_ (Nat.le_refl _) _ | refine bw_set ?_ ?_ _ | exact Nat.le_refl _ | exact later_size _ _ | refine Nat.le_trans ?_ (later_size _ _) | refine Nat.le_trans ?_ (size_alloc_le _ _) | refine Nat.le_trans ?_ (Nat.le_add_right _ _))) rfl (fun K hK => ?_); apply Exists.intro; refine ⟨fun x => ?_, ?_⟩; focus (go_simp; (try go_bits); (try go_simp); (try rfl))); (go_simp; (try go_bits); refine hK _ ?_; clear hK K); (refine step_read (i := 2) (by kernel_rfl) (by kernel_rfl) rfl (by repeat (with_reducible first | exact Below.refl _ _ | refine bw_later ?_ _ | refine bw_alloc ?_ _ | refine bw_drew ?_ | refine bw_set ?_ (Nat.le_refl _) _ | refine bw_set ?_ ?_ _ | exact Nat.le_refl _ | exact later_size _ _ | refine Nat.le_trans ?_ (later_size _ _) | refine Nat.le_trans ?_ (size_alloc_le _ _) | refine Nat.le_trans ?_ (Nat.le_add_right _ _))) rfl (fun K hK => ?_); apply Exists.intro; refine ⟨fun x => ?_, ?_⟩; focus (go_simp; (try go_bits); (try go_simp); (try rfl))); (go_simp; (try go_bits); refine hK _ ?_; clear hK K); (refine step_read (i := 3) (by kernel_rfl) (by kernel_rfl) rfl (by repeat (with_reducible first | exact Below.refl _ _ | refine bw_later ?_ _ | refine bw_alloc ?_ _ | refine bw_drew ?_ | refine bw_set ?_ (Nat.le_refl _) _ | refine bw_set ?_ ?_ _ | exact Nat.le_refl _ | exact later_size _ _ | refine Nat.le_trans ?_ (later_size _ _) | refine Nat.le_trans ?_ (size_alloc_le _ _) | refine Nat.le_trans ?_ (Nat.le_add_right _ _))) rfl (fun K hK => ?_); apply Exists.intro; refine ⟨fun x => ?_, ?_⟩; focus (go_simp; (try go_bits); (try go_simp); (try rfl))); (go_simp; (try go_bits); refine hK _ ?_; clear hK K); (refine step_read (i := 4) (by kernel_rfl) (by kernel_rfl) rfl (by repeat (with_reducible first | exact Below.refl _ _ | refine bw_later ?_ _ | refine bw_alloc ?_ _ | refine bw_drew ?_ | refine bw_set ?_ (Nat.le_refl _) _ | refine bw_set ?_ ?_ _ | exact Nat.le_refl _ | exact later_size _ _ | refine Nat.le_trans ?_ (later_size _ _) | refine Nat.le_trans ?_ (size_alloc_le _ _) | refine Nat.le_trans ?_ (Nat.le_add_right _ _))) rfl (fun K hK => ?_); apply Exists.intro; refine ⟨fun x => ?_, ?_⟩; focus (go_simp; (try go_bits); (try go_simp); (try rfl))); (go_simp; (try go_bits); refine hK _ ?_; clear hK K); (refine step_read (i := 5) (by kernel_rfl) (by kernel_rfl) rfl (by repeat (with_reducible first | exact Below.refl _ _ | refine bw_later ?_ _ | refine bw_alloc ?_ _ | refine bw_drew ?_ | refine bw_set ?_ (Nat.le_refl _) _ | refine bw_set ?_ ?_ _ | exact Nat.le_refl _ | exact later_size _ _ | refine Nat.le_trans ?_ (later_size _ _) | refine Nat.le_trans ?_ (size_alloc_le _ _) | refine Nat.le_trans ?_ (Nat.le_add_right _ _))) rfl (fun K hK => ?_); apply Exists.intro; refine ⟨fun x => ?_, ?_⟩; focus (go_simp; (try go_bits); (try go_simp); (try rfl))); (go_simp; (try go_bits); refine hK _ ?_; clear hK K); (refine step_read (i := 6) (by kernel_rfl) (by kernel_rfl) rfl (by repeat (with_reducible first | exact Below.refl _ _ | refine bw_later ?_ _ | refine bw_alloc ?_ _ | refine bw_drew ?_ | refine bw_set ?_ (Nat.le_refl _) _ | refine bw_set ?_ ?_ _ | exact Nat.le_refl _ | exact later_size _ _ | refine Nat.le_trans ?_ (later_size _ _) | refine Nat.le_trans ?_ (size_alloc_le _ _) | refine Nat.le_trans ?_ (Nat.le_add_right _ _))) rfl (fun K hK => ?_); apply Exists.intro; refine ⟨fun x => ?_, ?_⟩; focus (go_simp; (try go_bits); (try go_simp); (try rfl))); (go_simp; (try go_bits); refine hK _ ?_; clear hK K); (refine step_read (i := 7) (by kernel_rfl) (by kernel_rfl) rfl (by repeat (with_reducible first | exact Below.refl _ _ | refine bw_later ?_ _ | refine bw_alloc ?_ _ | refine bw_drew ?_ | refine bw_set ?_ (Nat.le_refl _) _ | refine bw_set ?_ ?_ _ | exact Nat.le_refl _ | exact later_size _ _ | refine Nat.le_trans ?_ (later_size _ _) | refine Nat.le_trans ?_ (size_alloc_le _ _) | refine Nat.le_trans ?_ (Nat.le_add_right _ _))) rfl (fun K hK => ?_); apply Exists.intro; refine ⟨fun x => ?_, ?_⟩; focus (go_simp; (try go_bits); (try go_simp); (try rfl))); (go_simp; (try go_bits); refine hK _ ?_; clear hK K); (refine step_read (i := 8) (by kernel_rfl) (by kernel_rfl) rfl (by repeat (with_reducible first | exact Below.refl _ _ | refine bw_later ?_ _ | refine bw_alloc ?_ _ | refine bw_drew ?_ | refine bw_set ?_ (Nat.le_refl _) _ | refine bw_set ?_ ?_ _ | exact Nat.le_refl _ | exact later_size _ _ | refine Nat.le_trans ?_ (later_size _ _) | refine Nat.le_trans ?_ (size_alloc_le _ _) | refine Nat.le_trans ?_ (Nat.le_add_right _ _))) rfl (fun K hK => ?_); apply Exists.intro; refine ⟨fun x => ?_, ?_⟩; focus (go_simp; (try go_bits); (try go_simp); (try rfl))); (go_simp; (try go_bits); refine hK _ ?_; clear hK K); (refine step_read (i := 9) (by kernel_rfl) (by kernel_rfl) rfl (by repeat (with_reducible first | exact Below.refl _ _ | refine bw_later ?_ _ | refine bw_alloc ?_ _ | refine bw_drew ?_ | refine bw_set ?_ (Nat.le_refl _) _ | refine bw_set ?_ ?_ _ | exact Nat.le_refl _ | exact later_size _ _ | refine Nat.le_trans ?_ (later_size _ _) | refine Nat.le_trans ?_ (size_alloc_le _ _) | refine Nat.le_trans ?_ (Nat.le_add_right _ _))) rfl (fun K hK => ?_); apply Exists.intro; refine ⟨fun x => ?_, ?_⟩; focus (go_simp; (try go_bits); (try go_simp); (try rfl))); (go_simp; (try go_bits); refine hK _ ?_; clear hK K); (refine step_read (i := 10) (by kernel_rfl) (by kernel_rfl) rfl (by repeat (with_reducible first | exact Below.refl _ _ | refine bw_later ?_ _ | refine bw_alloc ?_ _ | refine bw_drew ?_ | refine bw_set ?_ (Nat.le_refl _) _ | refine bw_set ?_ ?_ _ | exact Nat.le_refl _ | exact later_size _ _ | refine Nat.le_trans ?_ (later_size _ _) | refine Nat.le_trans ?_ (size_alloc_le _ _) | refine Nat.le_trans ?_ (Nat.le_add_right _ _))) rfl (fun K hK => ?_); apply Exists.intro; refine ⟨fun x => ?_, ?_⟩; focus (go_simp; (try go_bits); (try go_simp); (try rfl))); (go_simp; (try go_bits); refine hK _ ?_; clear hK K))
        (refine step_same (i := 11) (by kernel_rfl) (by kernel_rfl) rfl (by repeat (with_reducible first | exact Below.refl _ _ | refine bw_later ?_ _ | refine bw_alloc ?_ _ | refine bw_drew ?_ | refine bw_set ?_ (Nat.le_refl _) _ | refine bw_set ?_ ?_ _ | exact Nat.le_refl _ | exact later_size _ _ | refine Nat.le_trans ?_ (later_size _ _) | refine Nat.le_trans ?_ (size_alloc_le _ _) | refine Nat.le_trans ?_ (Nat.le_add_right _ _))) rfl (fun K hK => ?_); refine ⟨52, _, fun x => by go_simp; rfl, ?_⟩; refine ⟨_, fun x => dist2_same q.h r.h d7 d8 d3 d4 _, ?_⟩; go_simp; refine hK _ ?_; clear hK K)
        ((refine step_read (i := 12) (by kernel_rfl) (by kernel_rfl) rfl (by repeat (with_reducible first | exact Below.refl _ _ | refine bw_later ?_ _ | refine bw_alloc ?_ _ | refine bw_drew ?_ | refine bw_set ?_ (Nat.le_refl _) _ | refine bw_set ?_ ?_ _ | exact Nat.le_refl _ | exact later_size _ _ | refine Nat.le_trans ?_ (later_size _ _) | refine Nat.le_trans ?_ (size_alloc_le _ _) | refine Nat.le_trans ?_ (Nat.le_add_right _ _))) rfl (fun K hK => ?_); apply Exists.intro; refine ⟨fun x => ?_, ?_⟩; focus (go_simp; (try go_bits); (try go_simp); (try rfl))); (go_simp; (try go_bits); refine hK _ ?_; clear hK K); (refine step_read (i := 13) (by kernel_rfl) (by kernel_rfl) rfl (by repeat (with_reducible first | exact Below.refl _ _ | refine bw_later ?_ _ | refine bw_alloc ?_ _ | refine bw_drew ?_ | refine bw_set ?_ (Nat.le_refl _) _ | refine bw_set ?_ ?_ _ | exact Nat.le_refl _ | exact later_size _ _ | refine Nat.le_trans ?_ (later_size _ _) | refine Nat.le_trans ?_ (size_alloc_le _ _) | refine Nat.le_trans ?_ (Nat.le_add_right _ _))) rfl (fun K hK => ?_); apply Exists.intro; refine ⟨fun x => ?_, ?_⟩; focus (go_simp; (try go_bits); (try go_simp); (try rfl))); (go_simp; (try go_bits); refine hK _ ?_; clear hK K))
        (refine step_one (i := 14) (by kernel_rfl) rfl (by repeat (with_reducible first | exact Below.refl _ _ | refine bw_later ?_ _ | refine bw_alloc ?_ _ | refine bw_drew ?_ | refine bw_set ?_ (Nat.le_refl _) _ | refine bw_set ?_ ?_ _ | exact Nat.le_refl _ | exact later_size _ _ | refine Nat.le_trans ?_ (later_size _ _) | refine Nat.le_trans ?_ (size_alloc_le _ _) | refine Nat.le_trans ?_ (Nat.le_add_right _ _))) (fun K hK => ?_); go_wp2; (try refine hK _ _ ?_); (try clear hK K))
        (refine step_one (i := 15) (by kernel_rfl) rfl (by repeat (with_reducible first | exact Below.refl _ _ | refine bw_later ?_ _ | refine bw_alloc ?_ _ | refine bw_drew ?_ | refine bw_set ?_ (Nat.le_refl _) _ | refine bw_set ?_ ?_ _ | exact Nat.le_refl _ | exact later_size _ _ | refine Nat.le_trans ?_ (later_size _ _) | refine Nat.le_trans ?_ (size_alloc_le _ _) | refine Nat.le_trans ?_ (Nat.le_add_right _ _))) (fun K hK => ?_); go_wp2; (try refine hK _ _ ?_); (try clear hK K))
        (refine step_end (by kernel_rfl) (by repeat (with_reducible first | exact Below.refl _ _ | refine bw_later ?_ _ | refine bw_alloc ?_ _ | refine bw_drew ?_ | refine bw_set ?_ (Nat.le_refl _) _ | refine bw_set ?_ ?_ _ | exact Nat.le_refl _ | exact later_size _ _ | refine Nat.le_trans ?_ (later_size _ _) | refine Nat.le_trans ?_ (size_alloc_le _ _) | refine Nat.le_trans ?_ (Nat.le_add_right _ _))) ?_)
        have hnew : Hid (wr.heap.size = wr.heap.size) := Lib.hid rfl
        go_wp2_with (go_at_call 53; refine (cmpZ_any (rdist q.h r.h) N (r.at_ - q.at_) D (by omega) (by omega) (by omega) (by omega) (by omega) (by omega) (by omega) (by omega) _).on ?_; intro xq)

        have hcw : Cw w wr.heap.size #[.int .i64 (rdist q.h r.h), .int .i64 (r.at_ - q.at_)] 59 (later (wr.alloc (.cells #[.int .i64 (rdist q.h r.h), .int .i64 (r.at_ - q.at_)] 59)).drew xq) := ((Cw.new hbw _ _).drew).later xq
        have hne : wr.heap.size ≠ gM := by omega
        have hml : (later (wr.alloc (.cells #[.int .i64 (rdist q.h r.h), .int .i64 (r.at_ - q.at_)] 59)).drew xq).heap[gM]? = some (.cells #[.int .i64 N, .int .i64 D] 59 (0, 0)) := ((later_below _ xq).block gM (by simp; omega)).trans ((Below.heap_alloc wr _ gM hgMl).trans HM.out)
        have hll : (later (wr.alloc (.cells #[.int .i64 (rdist q.h r.h), .int .i64 (r.at_ - q.at_)] 59)).drew xq).heap[gL]? = w1.heap[gL]? := ((later_below _ xq).block gL (by simp; omega)).trans ((Below.heap_alloc wr _ gL hgLl).trans HL.out)
        generalize (later (wr.alloc (.cells #[.int .i64 (rdist q.h r.h), .int .i64 (r.at_ - q.at_)] 59)).drew xq) = W2 at hcw hml hll ⊢
        have hwl := hcw.lt
        have hgm2 : gM < W2.heap.size := (Array.getElem?_eq_some_iff.1 hml).1
        have hm20 : W2.cell? ⟨gM, 0, none⟩ = some (.int .i64 N) := by rw [cell_of_row W2 gM 0 _ _ (0, 0) hml]; rfl
        have hm21 : W2.cell? ⟨gM, 1, none⟩ = some (.int .i64 D) := by rw [cell_of_row W2 gM 1 _ _ (0, 0) hml]; rfl
        have hmf2 : ∀ i, W2.frozen? ⟨gM, i, none⟩ = false := fun i => by simp [World.frozen?, hml]
        have HML := Lib.hid hml
        have HLL := Lib.hid hll
        clear hml hll
        refine wp_region_C (Cw w wr.heap.size #[.int .i64 (rdist q.h r.h), .int .i64 (r.at_ - q.at_)] 59) (by kernel_rfl) ?_
        ((refine step_readC (i := 0) (by kernel_rfl) (by kernel_rfl) rfl (by repeat (with_reducible first | assumption | refine Cw.later ?_ _ | refine Cw.alloc ?_ _ | refine Cw.drew ?_ | refine Cw.set ?_ ?_ ?_ _)) rfl (fun K hK => ?_); apply Exists.intro; refine ⟨fun wq hq => ?_, ?_⟩; focus (have hq0 := hq.cell 0; have hq1 := hq.cell 1; go_simp; (try go_bits); (try go_simp); (try rfl))); (go_simp; (try go_bits); refine hK _ ?_; clear hK K); (refine step_readC (i := 1) (by kernel_rfl) (by kernel_rfl) rfl (by repeat (with_reducible first | assumption | refine Cw.later ?_ _ | refine Cw.alloc ?_ _ | refine Cw.drew ?_ | refine Cw.set ?_ ?_ ?_ _)) rfl (fun K hK => ?_); apply Exists.intro; refine ⟨fun wq hq => ?_, ?_⟩; focus (have hq0 := hq.cell 0; have hq1 := hq.cell 1; go_simp; (try go_bits); (try go_simp); (try rfl))); (go_simp; (try go_bits); refine hK _ ?_; clear hK K); (refine step_readC (i := 2) (by kernel_rfl) (by kernel_rfl) rfl (by repeat (with_reducible first | assumption | refine Cw.later ?_ _ | refine Cw.alloc ?_ _ | refine Cw.drew ?_ | refine Cw.set ?_ ?_ ?_ _)) rfl (fun K hK => ?_); apply Exists.intro; refine ⟨fun wq hq => ?_, ?_⟩; focus (have hq0 := hq.cell 0; have hq1 := hq.cell 1; go_simp; (try go_bits); (try go_simp); (try rfl))); (go_simp; (try go_bits); refine hK _ ?_; clear hK K))
        (refine step_one (i := 3) (by kernel_rfl) rfl (by repeat (with_reducible first | assumption | refine Cw.later ?_ _ | refine Cw.alloc ?_ _ | refine Cw.drew ?_ | refine Cw.set ?_ ?_ ?_ _)) (fun K hK => ?_); go_wp2; (try refine hK _ _ ?_); (try clear hK K))
        (refine step_end (by kernel_rfl) (by repeat (with_reducible first | assumption | refine Cw.later ?_ _ | refine Cw.alloc ?_ _ | refine Cw.drew ?_ | refine Cw.set ?_ ?_ ?_ _)) ?_)
        go_wp2
        go_roundw
        case rel => exact ⟨k + 1, (k : Int), rdist q.h r.h, r.at_ - q.at_, (by repeat (with_reducible first | exact hbw | exact hcw.below | exact Below.refl _ _ | refine bw_later ?_ _ | refine bw_alloc ?_ _ | refine bw_drew ?_ | refine bw_set ?_ hgM _)), by omega, by go_num, rfl, put_two HML.out _ _, by show ((W2.setCell ⟨gM, 0, none⟩ (.int .i64 (rdist q.h r.h))).setCell ⟨gM, 1, none⟩ (.int .i64 (r.at_ - q.at_))).heap[gL]? = _; rw [Below.heap_setCell _ _ _ _ (by simp; omega), Below.heap_setCell _ _ _ _ (by simp; omega)]; exact HLL.out, by omega, by omega, Lib.hid (by have := stAt_yes hst.out (by rw [E1.out, E2.out]; exact HP.out); rw [E1.out, E2.out] at this; exact this)⟩
        case measure => simp [intOf]; omega
    · obtain rfl : k = n - 1 := by omega
      have e := (hst.out.2 (by omega)).1
      have i7 : ¬ ((n - 1 : Nat) : Int) < ((n - 1 : Nat) : Int) := by omega
      go_wp2
      go_ret2
      exact ⟨by rw [hfin.out]; first | rfl | (rw [e]; rfl), (by repeat (with_reducible first | exact hbw | exact hcw.below | exact Below.refl _ _ | refine bw_later ?_ _ | refine bw_alloc ?_ _ | refine bw_drew ?_ | refine bw_set ?_ hgM _))⟩
theorem law_SteepestSpan (A0 : Option Addr) (n0 c0 : Nat) (xs0 : List Sup) (w : World) (rd0 : ASup w A0 n0 xs0 ∧ n0 ≤ 9223372036854775807) : Gv Try.prog 10 #[.slice A0 n0 c0] w (.bool true) := by
  obtain ⟨ha0, hm0⟩ := rd0
  unfold Gv
  by_cases k0 : 1048576 < n0
  · have z0 : szF n0 ((1048576 : Int)) = -1 := by unfold szF; rw [if_pos (by omega)]
    go_enter Try.func10, Try.ntmps10
    go_wp2_with fail
    refine Calls.mono (szSupport_any A0 n0 c0 ((1048576 : Int)) hm0 (by omega) (by omega) _) ?_
    rintro _ w1 ⟨rfl, b1⟩
    have hw := b1
    rw [z0]
    clear z0
    go_wp2_with fail
    go_ret
    exact ⟨rfl, hw⟩
  · have hn0 : n0 ≤ 1048576 := by omega
    have z0 : szF n0 ((1048576 : Int)) = (1048576 : Int) - (n0 : Int) := by unfold szF; rw [if_neg (by omega)]
    go_enter Try.func10, Try.ntmps10
    go_wp2_with fail
    refine Calls.mono (szSupport_any A0 n0 c0 ((1048576 : Int)) hm0 (by omega) (by omega) _) ?_
    rintro _ w1 ⟨rfl, b1⟩
    replace ha0 := ha0.below2 b1
    have hw := b1
    rw [z0]
    clear z0
    go_wp2_with fail
    refine Calls.mono (toSupportS_any A0 n0 c0 xs0 _ ha0 hn0) ?_
    rintro _ w2 ⟨g2, rfl, q2, hB2, b2⟩
    replace ha0 := ha0.below2 b2
    replace hw := bw_trans hw b2
    go_wp2_with fail
    refine Calls.mono (s_SteepestSpan_any g2 0 n0 n0 xs0 _ hB2.reads hn0) ?_
    rintro _ w3 ⟨rfl, b3⟩
    replace ha0 := ha0.below2 b3
    replace hB2 := hB2.below2 b3
    replace hw := bw_trans hw b3
    go_wp2_with fail
    refine Calls.mono (toSupportS_any A0 n0 c0 xs0 _ ha0 hn0) ?_
    rintro _ w4 ⟨g4, rfl, q4, hB4, b4⟩
    replace ha0 := ha0.below2 b4
    replace hB2 := hB2.below2 b4
    replace hw := bw_trans hw b4
    go_wp2_with fail
    refine Calls.mono (i_SteepestSpan_any g4 0 n0 n0 xs0 _ hB4.reads hn0) ?_
    rintro _ w5 ⟨rfl, b5⟩
    replace ha0 := ha0.below2 b5
    replace hB2 := hB2.below2 b5
    replace hB4 := hB4.below2 b5
    replace hw := bw_trans hw b5
    go_wp2_with fail
    refine Calls.mono (toSupportS_any A0 n0 c0 xs0 _ ha0 hn0) ?_
    rintro _ w6 ⟨g6, rfl, q6, hB6, b6⟩
    replace ha0 := ha0.below2 b6
    replace hB2 := hB2.below2 b6
    replace hB4 := hB4.below2 b6
    replace hw := bw_trans hw b6
    go_wp2_with fail
    refine Calls.mono (eqSupportS_any _ _ n0 n0 n0 n0 xs0 xs0 _ (ASup.of hB4.reads) (ASup.of hB6.reads) hn0 hn0) ?_
    rintro _ w7 ⟨rfl, b7⟩
    replace ha0 := ha0.below2 b7
    replace hB2 := hB2.below2 b7
    replace hB4 := hB4.below2 b7
    replace hB6 := hB6.below2 b7
    replace hw := bw_trans hw b7
    go_wp2_with fail
    go_ret
    exact ⟨rfl, hw⟩
end Go.Proofs.Ytfhggmjmhfafcaa
