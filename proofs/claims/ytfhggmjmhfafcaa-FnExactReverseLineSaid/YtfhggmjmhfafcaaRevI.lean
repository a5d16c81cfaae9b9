/- A line as seen from its other end: the program; the law. -/
import Derived.Test.YtfhggmjmhfafcaaRev
import Derived.Test.YtfhggmjmhfafcaaRowK
import Derived.Shelf.SlicesQ.Reverse
namespace Go.Proofs.Ytfhggmjmhfafcaa
open Go Go.RowKit
def revRen : Go.Shelf.Ren := ⟨fun | 35 => 46 | n => n, fun | 0 => 0 | 3 => 3 | 4 => 4 | 22 => 25 | 23 => 45 | n => n, fun n => n⟩
theorem revLay : SlLaysE0.n35 Try.prog revRen := {
  mixed := by kernel_rfl
  f35 := ⟨Try.f46.name, by kernel_rfl, Try.func46.trans (congrArg some (by kernel_rfl))⟩
  t0 := Try.underlying0
  a0 := Try.isAgg0
  z0 := Try.sizeOf0
  v0 := Try.zeroValue0
  t3 := Try.underlying3
  a3 := Try.isAgg3
  z3 := Try.sizeOf3
  v3 := Try.zeroValue3
  t4 := Try.underlying4
  a4 := Try.isAgg4
  z4 := Try.sizeOf4
  v4 := Try.zeroValue4
  t22 := Try.underlying25
  a22 := Try.isAgg25
  z22 := Try.sizeOf25
  v22 := Try.zeroValue25 }
theorem reverse_any (g n c : Nat) (xs : List Sup) (w : World) (hO : OSup w g (g + 1) (some ⟨g, 0, none⟩) n xs) (h0 : 0 < n) (hn : n ≤ 1048576) :
    Calls Try.prog 46 #[.slice (some ⟨g, 0, none⟩) n c] w fun e w' => e = .returned (.tuple #[]) ∧ OSup w' g (g + 1) (some ⟨g, 0, none⟩) n xs.reverse ∧ Tch w w' g (g + 1) := by
  have h := AnyQ.slices_Reverse revLay 3 Try.isAgg45 Try.sizeOf45 Sup.cs (fun _ => rfl) (fun x => Sup.cs_one x) g 0 c xs.toArray w hO.holds (by have := hO.1; simp; omega)
  have e : xs.toArray.size = n := by simpa using hO.1
  rw [e] at h
  refine Calls.mono h fun en w' ⟨he, m, hw⟩ => ⟨he, ?_⟩
  have hr : xs.toArray.reverse = xs.reverse.toArray := by simp
  rw [hr, ← sorted_none] at hw
  subst hw
  exact ⟨hO.sorted h0 (by simpa using hO.1), sorted_tch _ _ _ _ _ _ _ _⟩
def midTo (rv : List Sup) (e : Int) (k : Nat) : List Sup := (rv.take k).map (mir e) ++ rv.drop k
theorem mid_len (rv : List Sup) (e : Int) (k : Nat) : (midTo rv e k).length = rv.length := by simp [midTo]; omega
theorem mid_at {rv : List Sup} {e : Int} {k : Nat} (hk : k < rv.length) : (midTo rv e k)[k]? = rv[k]? := by
  unfold midTo
  rw [List.getElem?_append_right (by simp; omega)]
  simp [show min k rv.length = k by omega]
theorem mid_set {rv : List Sup} {e : Int} {k : Nat} {r : Sup} (hr : rv[k]? = some r) : (midTo rv e k).set k (mir e r) = midTo rv e (k + 1) := by
  have hk := (List.getElem?_eq_some_iff.1 hr).1
  unfold midTo
  rw [List.set_append, if_neg (by simp; omega), List.take_add_one, hr]
  simp only [List.length_map, List.length_take, show k - min k rv.length = 0 by omega, Option.toList_some, List.map_append, List.map_cons, List.map_nil, List.append_assoc]
  rw [List.drop_eq_getElem_cons hk, List.set_cons_zero]
  simp
theorem mid_all (xs : List Sup) (e : Int) {n : Nat} (h : xs.length = n) : midTo xs.reverse e n = revTo xs e n := by
  unfold midTo revTo
  rw [List.drop_eq_nil_of_le (by simp; omega), List.append_nil]
set_option maxHeartbeats 4000000 in
theorem i_ReverseLine_any (g off n c : Nat) (xs : List Sup) (w : World) (hs : SSup w g off n xs) (hn : n ≤ 1048576) : GSup Try.prog 29 #[.slice (some ⟨g, off, none⟩) n c] w (revF xs) := by
  unfold GSup
  cases h0 : okLine xs
  · have hfin := Lib.hid (show revF xs = ([], false) by simp [revF, h0])
    go_enter Try.func29, Try.ntmps29
    go_wp2_with (first | (go_at_call 14; (first | refine (impl_IsLine_any g off _ c xs _ (by first | exact hs | exact hs.later _ | exact hs.alloc _ | exact (hs.alloc _).later _ | exact (hs.later _).alloc _ | exact ((hs.later _).alloc _).later _ | exact ((hs.alloc _).later _).alloc _ | exact (hs.alloc _).alloc _ | exact ((hs.alloc _).alloc _).later _ | exact (((hs.alloc _).later _).alloc _).later _) hn).onL ?_ | refine (impl_IsLine_any g off _ c xs _ (by first | exact hs | exact hs.later _ | exact hs.alloc _ | exact (hs.alloc _).later _ | exact (hs.later _).alloc _ | exact ((hs.later _).alloc _).later _ | exact ((hs.alloc _).later _).alloc _ | exact (hs.alloc _).alloc _ | exact ((hs.alloc _).alloc _).later _ | exact (((hs.alloc _).later _).alloc _).later _) hn).on ?_); intro xq))
    all_goals (go_ret2; rw [hfin.out]; exact SupsB.none_ (by repeat (with_reducible first | exact Below.refl _ _ | refine bw_later ?_ _ | refine bw_alloc ?_ _ | refine bw_drew ?_ | refine bw_set ?_ (Nat.le_refl _) _ | refine bw_set ?_ ?_ _ | exact Nat.le_refl _ | exact later_size _ _ | refine Nat.le_trans ?_ (later_size _ _) | refine Nat.le_trans ?_ (size_alloc_le _ _) | refine Nat.le_trans ?_ (Nat.le_add_right _ _))))
  have hfin := Lib.hid (show revF xs = (revTo xs (endOf xs) n, true) by simp [revF, h0, hs.2.1])
  have hl := Lib.hid hs.2.1
  have hg := hs.1
  have hL := Lib.hid (line_ok h0)
  have h28 := (line_ok h0).len
  rw [hs.2.1] at h28
  obtain ⟨m, rfl⟩ : ∃ m, n = m + 1 := ⟨n - 1, by omega⟩
  obtain ⟨z, hz0'⟩ := hs.at_ (k := m) (by omega)
  obtain ⟨ez, -, -⟩ := hs.2.2 m z hz0'
  obtain ⟨⟨z1, z2⟩, -⟩ := hL.out.bd _ _ hz0'
  have hend := Lib.hid (show endOf xs = z.at_ by unfold endOf; rw [hl.out, Nat.add_sub_cancel, supAt_of hz0'])
  clear hz0'
  have iw1 : IntKind.i64.wrap ((m : Int) + 1 - 1) = (m : Int) := by rw [Go.IntWalk.i64_in _ (by omega)]; omega
  have i1 : (0 : Int) ≤ (m : Int) := by omega
  have i2 : (m : Int) < (m : Int) + 1 := by omega
  have i3 : m < m + 1 := by omega
  go_enter Try.func29, Try.ntmps29
  have h0n : 0 < m + 1 := by omega
  go_wp2_with (first | (go_at_call 14; (first | refine (impl_IsLine_any g off _ c xs _ (by first | exact hs | exact hs.later _ | exact hs.alloc _ | exact (hs.alloc _).later _ | exact (hs.later _).alloc _ | exact ((hs.later _).alloc _).later _ | exact ((hs.alloc _).later _).alloc _ | exact (hs.alloc _).alloc _ | exact ((hs.alloc _).alloc _).later _ | exact (((hs.alloc _).later _).alloc _).later _) hn).onL ?_ | refine (impl_IsLine_any g off _ c xs _ (by first | exact hs | exact hs.later _ | exact hs.alloc _ | exact (hs.alloc _).later _ | exact (hs.later _).alloc _ | exact ((hs.later _).alloc _).later _ | exact ((hs.alloc _).later _).alloc _ | exact (hs.alloc _).alloc _ | exact ((hs.alloc _).alloc _).later _ | exact (((hs.alloc _).later _).alloc _).later _) hn).on ?_); intro xq))
  clear h0
  (refine wp_region_C (Below (w).heap.size (w)) (by kernel_rfl) ?_)
  ((refine step_read (i := 0) (by kernel_rfl) (by kernel_rfl) rfl (by repeat (with_reducible first | exact Below.refl _ _ | refine bw_later ?_ _ | refine bw_alloc ?_ _ | refine bw_drew ?_ | refine bw_set ?_ (Nat.le_refl _) _ | refine bw_set ?_ ?_ _ | exact Nat.le_refl _ | exact later_size _ _ | refine Nat.le_trans ?_ (later_size _ _) | refine Nat.le_trans ?_ (size_alloc_le _ _) | refine Nat.le_trans ?_ (Nat.le_add_right _ _))) rfl (fun K hK => ?_); apply Exists.intro; refine ⟨fun x => ?_, ?_⟩; focus (go_simp; (try go_bits); (try go_simp); (try rfl))); (go_simp; (try go_bits); refine hK _ ?_; clear hK K); (refine step_read (i := 2) (by kernel_rfl) (by kernel_rfl) rfl (by repeat (with_reducible first | exact Below.refl _ _ | refine bw_later ?_ _ | refine bw_alloc ?_ _ | refine bw_drew ?_ | refine bw_set ?_ (Nat.le_refl _) _ | refine bw_set ?_ ?_ _ | exact Nat.le_refl _ | exact later_size _ _ | refine Nat.le_trans ?_ (later_size _ _) | refine Nat.le_trans ?_ (size_alloc_le _ _) | refine Nat.le_trans ?_ (Nat.le_add_right _ _))) rfl (fun K hK => ?_); apply Exists.intro; refine ⟨fun x => ?_, ?_⟩; focus (go_simp; (try go_bits); (try go_simp); (try rfl))); (go_simp; (try go_bits); refine hK _ ?_; clear hK K); (refine step_read (i := 3) (by kernel_rfl) (by kernel_rfl) rfl (by repeat (with_reducible first | exact Below.refl _ _ | refine bw_later ?_ _ | refine bw_alloc ?_ _ | refine bw_drew ?_ | refine bw_set ?_ (Nat.le_refl _) _ | refine bw_set ?_ ?_ _ | exact Nat.le_refl _ | exact later_size _ _ | refine Nat.le_trans ?_ (later_size _ _) | refine Nat.le_trans ?_ (size_alloc_le _ _) | refine Nat.le_trans ?_ (Nat.le_add_right _ _))) rfl (fun K hK => ?_); apply Exists.intro; refine ⟨fun x => ?_, ?_⟩; focus (go_simp; (try go_bits); (try go_simp); (try rfl))); (go_simp; (try go_bits); refine hK _ ?_; clear hK K); (refine step_read (i := 4) (by kernel_rfl) (by kernel_rfl) rfl (by repeat (with_reducible first | exact Below.refl _ _ | refine bw_later ?_ _ | refine bw_alloc ?_ _ | refine bw_drew ?_ | refine bw_set ?_ (Nat.le_refl _) _ | refine bw_set ?_ ?_ _ | exact Nat.le_refl _ | exact later_size _ _ | refine Nat.le_trans ?_ (later_size _ _) | refine Nat.le_trans ?_ (size_alloc_le _ _) | refine Nat.le_trans ?_ (Nat.le_add_right _ _))) rfl (fun K hK => ?_); apply Exists.intro; refine ⟨fun x => ?_, ?_⟩; focus (go_simp; (try go_bits); (try go_simp); (try rfl))); (go_simp; (try go_bits); refine hK _ ?_; clear hK K); (refine step_read (i := 5) (by kernel_rfl) (by kernel_rfl) rfl (by repeat (with_reducible first | exact Below.refl _ _ | refine bw_later ?_ _ | refine bw_alloc ?_ _ | refine bw_drew ?_ | refine bw_set ?_ (Nat.le_refl _) _ | refine bw_set ?_ ?_ _ | exact Nat.le_refl _ | exact later_size _ _ | refine Nat.le_trans ?_ (later_size _ _) | refine Nat.le_trans ?_ (size_alloc_le _ _) | refine Nat.le_trans ?_ (Nat.le_add_right _ _))) rfl (fun K hK => ?_); apply Exists.intro; refine ⟨fun x => ?_, ?_⟩; focus (go_simp; (try go_bits); (try go_simp); (try rfl))); (go_simp; (try go_bits); refine hK _ ?_; clear hK K); (refine step_read (i := 6) (by kernel_rfl) (by kernel_rfl) rfl (by repeat (with_reducible first | exact Below.refl _ _ | refine bw_later ?_ _ | refine bw_alloc ?_ _ | refine bw_drew ?_ | refine bw_set ?_ (Nat.le_refl _) _ | refine bw_set ?_ ?_ _ | exact Nat.le_refl _ | exact later_size _ _ | refine Nat.le_trans ?_ (later_size _ _) | refine Nat.le_trans ?_ (size_alloc_le _ _) | refine Nat.le_trans ?_ (Nat.le_add_right _ _))) rfl (fun K hK => ?_); apply Exists.intro; refine ⟨fun x => ?_, ?_⟩; focus (go_simp; (try go_bits); (try go_simp); (try rfl))); (go_simp; (try go_bits); refine hK _ ?_; clear hK K); (refine step_read (i := 7) (by kernel_rfl) (by kernel_rfl) rfl (by repeat (with_reducible first | exact Below.refl _ _ | refine bw_later ?_ _ | refine bw_alloc ?_ _ | refine bw_drew ?_ | refine bw_set ?_ (Nat.le_refl _) _ | refine bw_set ?_ ?_ _ | exact Nat.le_refl _ | exact later_size _ _ | refine Nat.le_trans ?_ (later_size _ _) | refine Nat.le_trans ?_ (size_alloc_le _ _) | refine Nat.le_trans ?_ (Nat.le_add_right _ _))) rfl (fun K hK => ?_); apply Exists.intro; refine ⟨fun x => ?_, ?_⟩; focus (go_simp; (try go_bits); (try go_simp); (try rfl))); (go_simp; (try go_bits); refine hK _ ?_; clear hK K); (refine step_read (i := 8) (by kernel_rfl) (by kernel_rfl) rfl (by repeat (with_reducible first | exact Below.refl _ _ | refine bw_later ?_ _ | refine bw_alloc ?_ _ | refine bw_drew ?_ | refine bw_set ?_ (Nat.le_refl _) _ | refine bw_set ?_ ?_ _ | exact Nat.le_refl _ | exact later_size _ _ | refine Nat.le_trans ?_ (later_size _ _) | refine Nat.le_trans ?_ (size_alloc_le _ _) | refine Nat.le_trans ?_ (Nat.le_add_right _ _))) rfl (fun K hK => ?_); apply Exists.intro; refine ⟨fun x => ?_, ?_⟩; focus (go_simp; (try go_bits); (try go_simp); (try rfl))); (go_simp; (try go_bits); refine hK _ ?_; clear hK K))
  (refine step_one (i := 1) (by kernel_rfl) rfl (by repeat (with_reducible first | exact Below.refl _ _ | refine bw_later ?_ _ | refine bw_alloc ?_ _ | refine bw_drew ?_ | refine bw_set ?_ (Nat.le_refl _) _ | refine bw_set ?_ ?_ _ | exact Nat.le_refl _ | exact later_size _ _ | refine Nat.le_trans ?_ (later_size _ _) | refine Nat.le_trans ?_ (size_alloc_le _ _) | refine Nat.le_trans ?_ (Nat.le_add_right _ _))) (fun K hK => ?_); go_wp2_with ((go_at_call 45; refine Calls.mono (cloneSup_any g off _ c xs _ (by first | exact hs | exact hs.later _ | exact hs.alloc _ | exact (hs.alloc _).later _ | exact (hs.later _).alloc _ | exact ((hs.later _).alloc _).later _ | exact ((hs.alloc _).later _).alloc _ | exact (hs.alloc _).alloc _ | exact ((hs.alloc _).alloc _).later _ | exact (((hs.alloc _).later _).alloc _).later _) hn h0n) ?_; rintro _ w3 ⟨g2, c2, rfl, q1, hO, q2, b3⟩; obtain ⟨y3, rfl⟩ := exists_later (bw_trans (a := w) (by repeat (with_reducible first | exact Below.refl _ _ | refine bw_later ?_ _ | refine bw_alloc ?_ _ | refine bw_drew ?_ | refine bw_set ?_ (Nat.le_refl _) _ | refine bw_set ?_ ?_ _ | exact Nat.le_refl _ | exact later_size _ _ | refine Nat.le_trans ?_ (later_size _ _) | refine Nat.le_trans ?_ (size_alloc_le _ _) | refine Nat.le_trans ?_ (Nat.le_add_right _ _))) b3); clear b3)); (try refine hK _ _ ?_); (try clear hK K))
  (refine step_one (i := 9) (by kernel_rfl) rfl (by repeat (with_reducible first | exact Below.refl _ _ | refine bw_later ?_ _ | refine bw_alloc ?_ _ | refine bw_drew ?_ | refine bw_set ?_ (Nat.le_refl _) _ | refine bw_set ?_ ?_ _ | exact Nat.le_refl _ | exact later_size _ _ | refine Nat.le_trans ?_ (later_size _ _) | refine Nat.le_trans ?_ (size_alloc_le _ _) | refine Nat.le_trans ?_ (Nat.le_add_right _ _))) (fun K hK => ?_); go_wp2; (try refine hK _ _ ?_); (try clear hK K))
  (refine step_one (i := 10) (by kernel_rfl) rfl (by repeat (with_reducible first | exact Below.refl _ _ | refine bw_later ?_ _ | refine bw_alloc ?_ _ | refine bw_drew ?_ | refine bw_set ?_ (Nat.le_refl _) _ | refine bw_set ?_ ?_ _ | exact Nat.le_refl _ | exact later_size _ _ | refine Nat.le_trans ?_ (later_size _ _) | refine Nat.le_trans ?_ (size_alloc_le _ _) | refine Nat.le_trans ?_ (Nat.le_add_right _ _))) (fun K hK => ?_); go_wp2; (try refine hK _ _ ?_); (try clear hK K))
  (refine step_end (by kernel_rfl) (by repeat (with_reducible first | exact Below.refl _ _ | refine bw_later ?_ _ | refine bw_alloc ?_ _ | refine bw_drew ?_ | refine bw_set ?_ (Nat.le_refl _) _ | refine bw_set ?_ ?_ _ | exact Nat.le_refl _ | exact later_size _ _ | refine Nat.le_trans ?_ (later_size _ _) | refine Nat.le_trans ?_ (size_alloc_le _ _) | refine Nat.le_trans ?_ (Nat.le_add_right _ _))) ?_)
  go_wp2_with (go_at_call 46; refine Calls.mono (reverse_any g2 (m + 1) c2 xs _ hO h0n hn) ?_; rintro _ w4 ⟨rfl, hO4, ht4⟩)
  replace q1 : w.heap.size ≤ g2 := Nat.le_trans (later_size _ _) q1
  have hbw4 : Below w.heap.size w w4 := (later_below w y3).trans (ht4.below q1 (later_size _ _))
  clear i1 i2 i3 ht4 hO
  go_loopw [23] (fun i wr => ∃ k : Nat, Below w.heap.size w wr ∧ k ≤ m + 1 ∧ i = .int .i64 (k : Int) ∧ OSup wr g2 (g2 + 1) (some ⟨g2, 0, none⟩) (m + 1) (midTo xs.reverse z.at_ k)) (fun i _ => m + 1 - (intOf i).toNat)
  case atStart => exact ⟨0, hbw4, by omega, rfl, by simpa [midTo] using hO4⟩
  case round =>
    obtain ⟨k, hbw, hk, rfl, hO⟩ := hrel
    by_cases hlt : k < m + 1
    · have hrl : k < xs.reverse.length := by rw [List.length_reverse, hl.out]; exact hlt
      have hr0 : xs.reverse[k]? = some (xs.reverse[k]'hrl) := List.getElem?_eq_getElem hrl
      generalize xs.reverse[k]'hrl = r at hr0
      have hmr : r ∈ xs := by have := List.mem_of_getElem? hr0; simpa using this
      obtain ⟨j, hj, hje⟩ := List.getElem_of_mem hmr
      obtain ⟨⟨b1, b2⟩, -⟩ := hL.out.bd j r (by rw [← hje]; exact List.getElem?_eq_getElem hj)
      obtain ⟨g2', eg, -, -, hgs, fz, hcc⟩ := hO.cells h0n
      simp only [Option.some.injEq, Addr.mk.injEq, and_true] at eg
      subst eg
      have hrm : (midTo xs.reverse z.at_ k)[k]? = some r := by rw [mid_at hrl]; exact hr0
      obtain ⟨d0, d1, d2⟩ := hcc k r hrm
      have hR := Lib.hid hr0
      have hRM := Lib.hid hrm
      clear hr0 hcc hrm hmr hj hje
      have iwe : IntKind.i64.wrap (z.at_ - r.at_) = z.at_ - r.at_ := Go.IntWalk.i64_in _ (by omega)
      go_wp2
      go_roundw
      case rel => exact ⟨k + 1, (by repeat (with_reducible first | exact hbw | exact Below.refl _ _ | refine bw_later ?_ _ | refine bw_alloc ?_ _ | refine bw_drew ?_ | refine bw_set ?_ q1 _)), by omega, by go_num, by rw [← mid_set hR.out]; exact hO.put0 (k := k) hRM.out (z.at_ - r.at_)⟩
      case measure => simp [intOf]; omega
    · obtain rfl : k = m + 1 := by omega
      go_wp2
      go_ret2
      rw [hfin.out, hend.out, ← mid_all xs _ hl.out]
      exact ⟨_, m + 1, c2, rfl, hO.wide q1 (hO.lt_of h0n), hn, (by repeat (with_reducible first | exact hbw | exact Below.refl _ _ | refine bw_later ?_ _ | refine bw_alloc ?_ _ | refine bw_drew ?_ | refine bw_set ?_ q1 _))⟩
theorem law_ReverseLine (A0 : Option Addr) (n0 c0 : Nat) (xs0 : List Sup) (w : World) (rd0 : ASup w A0 n0 xs0 ∧ n0 ≤ 9223372036854775807) : Gv Try.prog 8 #[.slice A0 n0 c0] w (.bool true) := by
  obtain ⟨ha0, hm0⟩ := rd0
  unfold Gv
  by_cases k0 : 1048576 < n0
  · have zz0 : szF n0 ((1048576 : Int)) = -1 := by unfold szF; rw [if_pos (by omega)]
    go_enter Try.func8, Try.ntmps8
    have hw : Below w.heap.size w w := Below.refl _ _
    go_wp2_with fail
    refine Calls.mono (szSupport_any A0 n0 c0 ((1048576 : Int)) hm0 (by omega) (by omega) _) ?_
    rintro _ w1 ⟨rfl, b1⟩
    replace hw := bw_trans hw b1
    have z1 := b1.size
    rw [zz0]
    clear zz0
    go_wp2_with fail
    go_ret
    exact ⟨rfl, hw⟩
  · have hn0 : n0 ≤ 1048576 := by omega
    have zz0 : szF n0 ((1048576 : Int)) = (1048576 : Int) - (n0 : Int) := by unfold szF; rw [if_neg (by omega)]
    go_enter Try.func8, Try.ntmps8
    have hw : Below w.heap.size w w := Below.refl _ _
    go_wp2_with fail
    refine Calls.mono (szSupport_any A0 n0 c0 ((1048576 : Int)) hm0 (by omega) (by omega) _) ?_
    rintro _ w1 ⟨rfl, b1⟩
    replace hw := bw_trans hw b1
    have z1 := b1.size
    rw [zz0]
    clear zz0
    go_wp2_with fail
    refine Calls.mono (toSupportS_any A0 n0 c0 xs0 _ (ha0.below2 hw) hn0) ?_
    rintro _ w2 ⟨g2, rfl, q2, hB2, b2⟩
    replace hw := bw_trans hw b2
    have z2 := b2.size
    have u2 := hB2.lt
    have hO2 := hB2.own q2 u2
    go_wp2_with fail
    refine Calls.mono (s_ReverseLine_any g2 0 n0 n0 xs0 _ hB2.reads hn0) ?_
    rintro _ w3 ⟨Ar3, m3, d3, rfl, hO3, l3, b3⟩
    replace hO2 := hO2.below2 b3
    replace hw := bw_trans hw b3
    have z3 := b3.size
    replace hB2 := hB2.below2 b3
    go_wp2_with fail
    refine Calls.mono (toSupportS_any A0 n0 c0 xs0 _ (ha0.below2 hw) hn0) ?_
    rintro _ w4 ⟨g4, rfl, q4, hB4, b4⟩
    replace hO3 := hO3.below2 b4
    replace hw := bw_trans hw b4
    have z4 := b4.size
    have u4 := hB4.lt
    have hO4 := hB4.own q4 u4
    go_wp2_with fail
    refine Calls.mono (i_ReverseLine_any g4 0 n0 n0 xs0 _ hB4.reads hn0) ?_
    rintro _ w5 ⟨Ar5, m5, d5, rfl, hO5, l5, b5⟩
    replace hO3 := hO3.below2 b5
    replace hO4 := hO4.below2 b5
    replace hw := bw_trans hw b5
    have z5 := b5.size
    replace hB4 := hB4.below2 b5
    go_wp2_with fail
    refine Calls.mono (eqSupportS_any _ _ m5 m3 d5 d3 _ _ _ hO5.reads hO3.reads l5 l3) ?_
    rintro _ w6 ⟨rfl, b6⟩
    replace hO3 := hO3.below2 b6
    replace hO4 := hO4.below2 b6
    replace hO5 := hO5.below2 b6
    replace hw := bw_trans hw b6
    have z6 := b6.size
    go_wp2_with fail
    refine Calls.mono (toSupportS_any A0 n0 c0 xs0 _ (ha0.below2 hw) hn0) ?_
    rintro _ w7 ⟨g7, rfl, q7, hB7, b7⟩
    replace hO3 := hO3.below2 b7
    replace hO4 := hO4.below2 b7
    replace hO5 := hO5.below2 b7
    replace hw := bw_trans hw b7
    have z7 := b7.size
    have u7 := hB7.lt
    have hO7 := hB7.own q7 u7
    go_wp2_with fail
    refine Calls.mono (eqSupportS_any _ _ n0 n0 n0 n0 xs0 xs0 _ hO4.reads hO7.reads hn0 hn0) ?_
    rintro _ w8 ⟨rfl, b8⟩
    replace hO3 := hO3.below2 b8
    replace hO4 := hO4.below2 b8
    replace hO5 := hO5.below2 b8
    replace hO7 := hO7.below2 b8
    replace hw := bw_trans hw b8
    have z8 := b8.size
    go_wp2_with fail
    refine Calls.mono (markSupportS_any _ _ _ n0 n0 1 _ _ hO4 hn0 (by omega) (by omega)) ?_
    rintro _ w9 ⟨rfl, hO4, t9⟩
    replace hO3 := hO3.tch t9 (by omega) (by omega)
    replace hO5 := hO5.tch t9 (by omega) (by omega)
    replace hw := hw.trans (t9.below (B := w.heap.size) (by omega) (by omega))
    have z9 := t9.size
    go_wp2_with fail
    refine Calls.mono (eqSupportS_any _ _ m5 m3 d5 d3 _ _ _ hO5.reads hO3.reads l5 l3) ?_
    rintro _ w10 ⟨rfl, b10⟩
    replace hO3 := hO3.below2 b10
    replace hO5 := hO5.below2 b10
    replace hw := bw_trans hw b10
    have z10 := b10.size
    go_wp2_with fail
    refine Calls.mono (markSupportS_any _ _ _ m5 d5 1 _ _ hO5 l5 (by omega) (by omega)) ?_
    rintro _ w11 ⟨rfl, hO5, t11⟩
    replace hO3 := hO3.tch t11 (by omega) (by omega)
    replace hw := hw.trans (t11.below (B := w.heap.size) (by omega) (by omega))
    have z11 := t11.size
    go_wp2_with fail
    refine Calls.mono (heldSupportS_any _ m5 d5 1 _ hO5.reads l5 (by omega) (by omega)) ?_
    rintro _ w12 ⟨rfl, b12⟩
    replace hO3 := hO3.below2 b12
    replace hO5 := hO5.below2 b12
    replace hw := bw_trans hw b12
    have z12 := b12.size
    go_wp2_with fail
    refine Calls.mono (toSupportS_any A0 n0 c0 xs0 _ (ha0.below2 hw) hn0) ?_
    rintro _ w13 ⟨g13, rfl, q13, hB13, b13⟩
    replace hO3 := hO3.below2 b13
    replace hO5 := hO5.below2 b13
    replace hw := bw_trans hw b13
    have z13 := b13.size
    have u13 := hB13.lt
    have hO13 := hB13.own q13 u13
    go_wp2_with fail
    refine Calls.mono (i_ReverseLine_any g13 0 n0 n0 xs0 _ hB13.reads hn0) ?_
    rintro _ w14 ⟨Ar14, m14, d14, rfl, hO14, l14, b14⟩
    replace hO3 := hO3.below2 b14
    replace hO5 := hO5.below2 b14
    replace hO13 := hO13.below2 b14
    replace hw := bw_trans hw b14
    have z14 := b14.size
    replace hB13 := hB13.below2 b14
    go_wp2_with fail
    refine Calls.mono (eqSupportS_any _ _ m14 m3 d14 d3 _ _ _ hO14.reads hO3.reads l14 l3) ?_
    rintro _ w15 ⟨rfl, b15⟩
    replace hO3 := hO3.below2 b15
    replace hO5 := hO5.below2 b15
    replace hO14 := hO14.below2 b15
    replace hw := bw_trans hw b15
    have z15 := b15.size
    go_wp2_with fail
    refine Calls.mono (heldSupportS_any _ m5 d5 1 _ hO5.reads l5 (by omega) (by omega)) ?_
    rintro _ w16 ⟨rfl, b16⟩
    replace hO3 := hO3.below2 b16
    replace hO5 := hO5.below2 b16
    replace hO14 := hO14.below2 b16
    replace hw := bw_trans hw b16
    have z16 := b16.size
    go_wp2_with fail
    go_ret
    exact ⟨rfl, hw⟩
end Go.Proofs.Ytfhggmjmhfafcaa
