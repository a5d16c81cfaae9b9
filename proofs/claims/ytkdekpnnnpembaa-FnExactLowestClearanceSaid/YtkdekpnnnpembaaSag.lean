/- A rope; the distances of a place from the ends of its span; the sag at a place. -/
import Derived.Test.YtkdekpnnnpembaaSpan
import Derived.Test.YtkdekpnnnpembaaFrac
import Derived.Test.YtkdekpnnnpembaaRegion
namespace Go.Proofs.Ytkdekpnnnpembaa
open Go.RowKit
def isRope (r : R2) : Bool := inB r.a 1 200 && inB r.b 1 100000
theorem impl_IsRope_any (r : R2) (w : World) : Gv Try.prog 14 #[r.v] w (.bool (isRope r)) := by
  unfold Gv R2.v isRope
  go_enter Try.func14, Try.ntmps14
  go_wp2_with (go_at_call 38; (first | refine (within_any _ _ _ _).onL ?_ | refine (within_any _ _ _ _).on ?_); intro xq)
  all_goals (go_ret; exact ⟨ret_bool (by simp [*]), (by repeat (with_reducible first | exact Below.refl _ _ | refine bw_later ?_ _ | refine bw_alloc ?_ _ | refine bw_drew ?_ | refine bw_set ?_ (Nat.le_refl _) _ | refine bw_set ?_ ?_ _ | exact Nat.le_refl _ | exact later_size _ _ | refine Nat.le_trans ?_ (later_size _ _) | refine Nat.le_trans ?_ (size_alloc_le _ _) | refine Nat.le_trans ?_ (Nat.le_add_right _ _)))⟩)
theorem l4Rope_any (r : R2) (w : World) : Gv Try.prog 37 #[r.v] w (.bool (isRope r)) := by
  unfold Gv R2.v isRope
  go_enter Try.func37, Try.ntmps37
  go_wp2_with (first | (go_at_call 46; (first | refine (in_any _ _ _ _).onL ?_ | refine (in_any _ _ _ _).on ?_); intro xq))
  all_goals (go_ret; exact ⟨ret_bool (by simp [*]), (by repeat (with_reducible first | exact Below.refl _ _ | refine bw_later ?_ _ | refine bw_alloc ?_ _ | refine bw_drew ?_ | refine bw_set ?_ (Nat.le_refl _) _ | refine bw_set ?_ ?_ _ | exact Nat.le_refl _ | exact later_size _ _ | refine Nat.le_trans ?_ (later_size _ _) | refine Nat.le_trans ?_ (size_alloc_le _ _) | refine Nat.le_trans ?_ (Nat.le_add_right _ _)))⟩)
theorem spec_IsRope_any (r : R2) (w : World) : Gv Try.prog 12 #[r.v] w (.bool (isRope r)) := by
  unfold Gv R2.v
  go_enter Try.func12, Try.ntmps12
  go_wp2_with (go_at_call 37; (first | refine (l4Rope_any r _).onL ?_ | refine (l4Rope_any r _).on ?_); intro xq)
  all_goals (go_ret; exact ⟨rfl, (by repeat (with_reducible first | exact Below.refl _ _ | refine bw_later ?_ _ | refine bw_alloc ?_ _ | refine bw_drew ?_ | refine bw_set ?_ (Nat.le_refl _) _ | refine bw_set ?_ ?_ _ | exact Nat.le_refl _ | exact later_size _ _ | refine Nat.le_trans ?_ (later_size _ _) | refine Nat.le_trans ?_ (size_alloc_le _ _) | refine Nat.le_trans ?_ (Nat.le_add_right _ _)))⟩)
theorem law_IsRope (r : R2) (w : World) : Gv Try.prog 3 #[r.v] w (.bool true) := by
  unfold Gv R2.v
  go_enter Try.func3, Try.ntmps3
  go_wp2_with (first | (go_at_call 13; (first | refine (toRope_any r _).onL ?_ | refine (toRope_any r _).on ?_); intro xq; unfold R2.v) | (go_at_call 12; (first | refine (spec_IsRope_any r _).onL ?_ | refine (spec_IsRope_any r _).on ?_); intro xq) | (go_at_call 14; (first | refine (impl_IsRope_any r _).onL ?_ | refine (impl_IsRope_any r _).on ?_); intro xq))
  all_goals (go_ret; exact ⟨rfl, (by repeat (with_reducible first | exact Below.refl _ _ | refine bw_later ?_ _ | refine bw_alloc ?_ _ | refine bw_drew ?_ | refine bw_set ?_ (Nat.le_refl _) _ | refine bw_set ?_ ?_ _ | exact Nat.le_refl _ | exact later_size _ _ | refine Nat.le_trans ?_ (later_size _ _) | refine Nat.le_trans ?_ (size_alloc_le _ _) | refine Nat.le_trans ?_ (Nat.le_add_right _ _)))⟩)
theorem rope_bd {r : R2} (h : isRope r = true) : (1 ≤ r.a ∧ r.a ≤ 200) ∧ (1 ≤ r.b ∧ r.b ≤ 100000) := by
  simp only [isRope, Bool.and_eq_true] at h
  exact ⟨inB_t h.1, inB_t h.2⟩
def partX (xs : List Sup) (p : Int) : Int := p - (spA xs p).at_
def partY (xs : List Sup) (p : Int) : Int := (spB xs p).at_ - p
theorem bend_parts (xs : List Sup) (p : Int) : bendX xs p = partX xs p * partY xs p := rfl
theorem span_parts (xs : List Sup) (p : Int) : spanL xs p = partX xs p + partY xs p := by unfold spanL partX partY; omega
theorem parts_bd {xs : List Sup} {p : Int} (h : onLine xs p = true) : (0 ≤ partX xs p ∧ partX xs p ≤ 3000) ∧ (0 ≤ partY xs p ∧ partY xs p ≤ 3000) := by
  obtain ⟨_, _, _, h1, _, h2, _, _⟩ := span_ok h
  unfold partX partY
  omega
theorem one_le_mul {a b : Int} (h1 : 1 ≤ a) (h2 : 1 ≤ b) : 1 ≤ a * b := by
  have := Int.mul_le_mul h1 h2 (by omega) (by omega)
  omega
theorem bend_eq (xs : List Sup) (p : Int) : (p - (spA xs p).at_) * ((spB xs p).at_ - (spA xs p).at_ - (p - (spA xs p).at_)) = bendX xs p := by
  unfold bendX
  congr 1
  omega
theorem bend_any (g off n c : Nat) (xs : List Sup) (p : Int) (w : World) (hs : SSup w g off n xs) (hn : n ≤ 1048576) (ho : onLine xs p = true) : Gv Try.prog 50 #[.slice (some ⟨g, off, none⟩) n c, .int .i64 p] w (.tuple #[.int .i64 (bendX xs p), .int .i64 (spanL xs p)]) := by
  unfold Gv
  have hg := hs.1
  obtain ⟨lt, ha, hb, ⟨le1, le2⟩, up, ⟨e1, e2⟩, -, -⟩ := span_ok ho
  have hle := hs.2.1
  obtain ⟨a0, -, -⟩ := hs.2.2 _ _ ha
  obtain ⟨b0, -, -⟩ := hs.2.2 _ _ hb
  rw [hle] at lt
  have iw : IntKind.i64.wrap ((spanF xs p : Int) + 1) = (spanF xs p : Int) + 1 := Go.IntWalk.i64_in _ (by omega)
  have lt1 : spanF xs p < n := by omega
  have i1 : (0 : Int) ≤ (spanF xs p : Int) + 1 := by omega
  have i2 : (spanF xs p : Int) + 1 < (n : Int) := by omega
  have i3 : (spanF xs p : Int) < (n : Int) := by omega
  clear ha hb hle
  obtain ⟨m1, m2⟩ := mul_bd (a := p - (spA xs p).at_) (b := (spB xs p).at_ - (spA xs p).at_ - (p - (spA xs p).at_)) (A := 3000) (B := 3000) (by omega) (by omega) (by omega) (by omega)
  have w1 : IntKind.i64.wrap (p - (spA xs p).at_) = p - (spA xs p).at_ := Go.IntWalk.i64_in _ (by omega)
  have w2 : IntKind.i64.wrap ((spB xs p).at_ - (spA xs p).at_) = (spB xs p).at_ - (spA xs p).at_ := Go.IntWalk.i64_in _ (by omega)
  go_enter Try.func50, Try.ntmps50
  go_wp2_with (first | (go_at_call 61; (first | refine (i_span_any g off n c xs p _ (by first | exact hs | exact hs.later _ | exact hs.alloc _ | exact (hs.alloc _).later _ | exact (hs.later _).alloc _ | exact ((hs.later _).alloc _).later _ | exact ((hs.alloc _).later _).alloc _ | exact (hs.alloc _).alloc _ | exact ((hs.alloc _).alloc _).later _ | exact (((hs.alloc _).later _).alloc _).later _) hn ho).onL ?_ | refine (i_span_any g off n c xs p _ (by first | exact hs | exact hs.later _ | exact hs.alloc _ | exact (hs.alloc _).later _ | exact (hs.later _).alloc _ | exact ((hs.later _).alloc _).later _ | exact ((hs.alloc _).later _).alloc _ | exact (hs.alloc _).alloc _ | exact ((hs.alloc _).alloc _).later _ | exact (((hs.alloc _).later _).alloc _).later _) hn ho).on ?_); intro xq) | ((with_reducible refine wp_region_later (by kernel_rfl) (by kernel_rfl) ?_); (repeat (go_big_quiet_step (fail))); refine wpQuiet_nil ?_; rintro _ ⟨xr, rfl⟩))
  go_ret2
  exact ⟨by rw [← bend_eq]; rfl, (by repeat (with_reducible first | exact Below.refl _ _ | refine bw_later ?_ _ | refine bw_alloc ?_ _ | refine bw_drew ?_ | refine bw_set ?_ (Nat.le_refl _) _ | refine bw_set ?_ ?_ _ | exact Nat.le_refl _ | exact later_size _ _ | refine Nat.le_trans ?_ (later_size _ _) | refine Nat.le_trans ?_ (size_alloc_le _ _) | refine Nat.le_trans ?_ (Nat.le_add_right _ _)))⟩
theorem l4Parts_any (g off n c : Nat) (xs : List Sup) (p : Int) (w : World) (hs : SSup w g off n xs) (hn : n ≤ 1048576) (ho : onLine xs p = true) : Gv Try.prog 47 #[.slice (some ⟨g, off, none⟩) n c, .int .i64 p] w (.tuple #[.int .i64 (partX xs p), .int .i64 (partY xs p)]) := by
  unfold Gv
  have hg := hs.1
  obtain ⟨lt, ha, hb, ⟨le1, le2⟩, up, ⟨e1, e2⟩, -, -⟩ := span_ok ho
  have hle := hs.2.1
  obtain ⟨a0, -, -⟩ := hs.2.2 _ _ ha
  obtain ⟨b0, -, -⟩ := hs.2.2 _ _ hb
  rw [hle] at lt
  have iw : IntKind.i64.wrap ((spanF xs p : Int) + 1) = (spanF xs p : Int) + 1 := Go.IntWalk.i64_in _ (by omega)
  have lt1 : spanF xs p < n := by omega
  have i1 : (0 : Int) ≤ (spanF xs p : Int) + 1 := by omega
  have i2 : (spanF xs p : Int) + 1 < (n : Int) := by omega
  have i3 : (spanF xs p : Int) < (n : Int) := by omega
  clear ha hb hle
  have w1 : IntKind.i64.wrap (p - (spA xs p).at_) = p - (spA xs p).at_ := Go.IntWalk.i64_in _ (by omega)
  have w2 : IntKind.i64.wrap ((spB xs p).at_ - p) = (spB xs p).at_ - p := Go.IntWalk.i64_in _ (by omega)
  go_enter Try.func47, Try.ntmps47
  go_wp2_with (first | (go_at_call 60; (first | refine (s_span_any g off n c xs p _ (by first | exact hs | exact hs.later _ | exact hs.alloc _ | exact (hs.alloc _).later _ | exact (hs.later _).alloc _ | exact ((hs.later _).alloc _).later _ | exact ((hs.alloc _).later _).alloc _ | exact (hs.alloc _).alloc _ | exact ((hs.alloc _).alloc _).later _ | exact (((hs.alloc _).later _).alloc _).later _) hn ho).onL ?_ | refine (s_span_any g off n c xs p _ (by first | exact hs | exact hs.later _ | exact hs.alloc _ | exact (hs.alloc _).later _ | exact (hs.later _).alloc _ | exact ((hs.later _).alloc _).later _ | exact ((hs.alloc _).later _).alloc _ | exact (hs.alloc _).alloc _ | exact ((hs.alloc _).alloc _).later _ | exact (((hs.alloc _).later _).alloc _).later _) hn ho).on ?_); intro xq) | ((with_reducible refine wp_region_later (by kernel_rfl) (by kernel_rfl) ?_); (repeat (go_big_quiet_step (fail))); refine wpQuiet_nil ?_; rintro _ ⟨xr, rfl⟩))
  go_ret2
  exact ⟨rfl, (by repeat (with_reducible first | exact Below.refl _ _ | refine bw_later ?_ _ | refine bw_alloc ?_ _ | refine bw_drew ?_ | refine bw_set ?_ (Nat.le_refl _) _ | refine bw_set ?_ ?_ _ | exact Nat.le_refl _ | exact later_size _ _ | refine Nat.le_trans ?_ (later_size _ _) | refine Nat.le_trans ?_ (size_alloc_le _ _) | refine Nat.le_trans ?_ (Nat.le_add_right _ _)))⟩
theorem l4Asked_any (g off n c : Nat) (xs : List Sup) (r : R2) (p : Int) (w : World) (hs : SSup w g off n xs) (hn : n ≤ 1048576) : Gv Try.prog 45 #[.slice (some ⟨g, off, none⟩) n c, r.v, .int .i64 p] w (.bool (onLine xs p && isRope r)) := by
  unfold Gv R2.v
  cases h0 : onLine xs p
  all_goals
    go_enter Try.func45, Try.ntmps45
    go_wp2_with (first | (go_at_call 59; (first | refine (s_on_any g off n c xs p _ (by first | exact hs | exact hs.later _ | exact hs.alloc _ | exact (hs.alloc _).later _ | exact (hs.later _).alloc _ | exact ((hs.later _).alloc _).later _ | exact ((hs.alloc _).later _).alloc _ | exact (hs.alloc _).alloc _ | exact ((hs.alloc _).alloc _).later _ | exact (((hs.alloc _).later _).alloc _).later _) hn).onL ?_ | refine (s_on_any g off n c xs p _ (by first | exact hs | exact hs.later _ | exact hs.alloc _ | exact (hs.alloc _).later _ | exact (hs.later _).alloc _ | exact ((hs.later _).alloc _).later _ | exact ((hs.alloc _).later _).alloc _ | exact (hs.alloc _).alloc _ | exact ((hs.alloc _).alloc _).later _ | exact (((hs.alloc _).later _).alloc _).later _) hn).on ?_); intro xq) | (go_at_call 37; (first | refine (l4Rope_any r _).onL ?_ | refine (l4Rope_any r _).on ?_); intro xq))
    go_ret
    exact ⟨rfl, (by repeat (with_reducible first | exact Below.refl _ _ | refine bw_later ?_ _ | refine bw_alloc ?_ _ | refine bw_drew ?_ | refine bw_set ?_ (Nat.le_refl _) _ | refine bw_set ?_ ?_ _ | exact Nat.le_refl _ | exact later_size _ _ | refine Nat.le_trans ?_ (later_size _ _) | refine Nat.le_trans ?_ (size_alloc_le _ _) | refine Nat.le_trans ?_ (Nat.le_add_right _ _)))⟩
theorem sagAt_any (g off n c : Nat) (xs : List Sup) (r : R2) (p : Int) (w : World) (hs : SSup w g off n xs) (hn : n ≤ 1048576) (ho : onLine xs p = true) (hr : isRope r = true) : Gv Try.prog 53 #[.slice (some ⟨g, off, none⟩) n c, r.v, .int .i64 p] w (.agg #[.int .i64 (r.a * bendX xs p), .int .i64 (2 * r.b)]) := by
  obtain ⟨⟨r1, r2⟩, ⟨r3, r4⟩⟩ := rope_bd hr
  obtain ⟨b1, b2⟩ := bendX_bd ho
  obtain ⟨m1, m2⟩ := mul_bd (a := r.a) (b := bendX xs p) (A := 200) (B := 9000000) (by omega) r2 b1 b2
  clear hr
  unfold Gv R2.v
  go_enter Try.func53, Try.ntmps53
  go_wp2_with (go_at_call 50; (first | refine (bend_any g off n c xs p _ (by first | exact hs | exact hs.later _ | exact hs.alloc _ | exact (hs.alloc _).later _ | exact (hs.later _).alloc _ | exact ((hs.later _).alloc _).later _ | exact ((hs.alloc _).later _).alloc _ | exact (hs.alloc _).alloc _ | exact ((hs.alloc _).alloc _).later _ | exact (((hs.alloc _).later _).alloc _).later _) hn ho).onL ?_ | refine (bend_any g off n c xs p _ (by first | exact hs | exact hs.later _ | exact hs.alloc _ | exact (hs.alloc _).later _ | exact (hs.later _).alloc _ | exact ((hs.later _).alloc _).later _ | exact ((hs.alloc _).later _).alloc _ | exact (hs.alloc _).alloc _ | exact ((hs.alloc _).alloc _).later _ | exact (((hs.alloc _).later _).alloc _).later _) hn ho).on ?_); intro xq)
  exact bodyPost_ret (v := .agg #[.int .i64 (r.a * bendX xs p), .int .i64 (2 * r.b)]) (by simp [results, go_sem]) rfl ⟨rfl, (by repeat (with_reducible first | exact Below.refl _ _ | refine bw_later ?_ _ | refine bw_alloc ?_ _ | refine bw_drew ?_ | refine bw_set ?_ (Nat.le_refl _) _ | refine bw_set ?_ ?_ _ | exact Nat.le_refl _ | exact later_size _ _ | refine Nat.le_trans ?_ (later_size _ _) | refine Nat.le_trans ?_ (size_alloc_le _ _) | refine Nat.le_trans ?_ (Nat.le_add_right _ _)))⟩
def sagN (xs : List Sup) (r : R2) (p : Int) : Int := r.a * bendX xs p
theorem sag_eq (xs : List Sup) (r : R2) (p : Int) : sagN xs r p = r.a * partX xs p * partY xs p := by rw [sagN, bend_parts, Int.mul_assoc]
def sagF (xs : List Sup) (r : R2) (p : Int) : Int × Int × Bool := if onLine xs p && isRope r then (redN (sagN xs r p) (2 * r.b), redD (sagN xs r p) (2 * r.b), true) else (0, 0, false)
def loadN (xs : List Sup) (r : R2) (p l : Int) : Int := bendX xs p * (r.a * spanL xs p + 2 * l)
def loadD (xs : List Sup) (r : R2) (p : Int) : Int := 2 * spanL xs p * r.b
theorem loadN_eq (xs : List Sup) (r : R2) (p l : Int) : loadN xs r p l = r.a * partX xs p * partY xs p * (partX xs p + partY xs p) + 2 * l * partX xs p * partY xs p := by
  rw [loadN, bend_parts, span_parts]; grind
theorem loadD_eq (xs : List Sup) (r : R2) (p : Int) : loadD xs r p = 2 * r.b * (partX xs p + partY xs p) := by rw [loadD, span_parts]; grind
def loadF (xs : List Sup) (r : R2) (p l : Int) : Int × Int × Bool := if onLine xs p && (isRope r && inB l 0 20000) then (redN (loadN xs r p l) (loadD xs r p), redD (loadN xs r p l) (loadD xs r p), true) else (0, 0, false)
theorem i_SagAt_any (g off n c : Nat) (xs : List Sup) (r : R2) (p : Int) (w : World) (hs : SSup w g off n xs) (hn : n ≤ 1048576) : Gv Try.prog 28 #[.slice (some ⟨g, off, none⟩) n c, r.v, .int .i64 p] w (.tuple #[.int .i64 ((sagF xs r p)).1, .int .i64 (((sagF xs r p)).2).1, .bool (((sagF xs r p)).2).2]) := by
  unfold Gv
  cases h0 : onLine xs p
  · have hfin := Lib.hid (show sagF xs r p = (0, 0, false) by simp [sagF, h0])
    unfold R2.v
    go_enter Try.func28, Try.ntmps28
    go_wp2_with (first | (go_at_call 49; (first | refine (i_on_any g off n c xs p _ (by first | exact hs | exact hs.later _ | exact hs.alloc _ | exact (hs.alloc _).later _ | exact (hs.later _).alloc _ | exact ((hs.later _).alloc _).later _ | exact ((hs.alloc _).later _).alloc _ | exact (hs.alloc _).alloc _ | exact ((hs.alloc _).alloc _).later _ | exact (((hs.alloc _).later _).alloc _).later _) hn).onL ?_ | refine (i_on_any g off n c xs p _ (by first | exact hs | exact hs.later _ | exact hs.alloc _ | exact (hs.alloc _).later _ | exact (hs.later _).alloc _ | exact ((hs.later _).alloc _).later _ | exact ((hs.alloc _).later _).alloc _ | exact (hs.alloc _).alloc _ | exact ((hs.alloc _).alloc _).later _ | exact (((hs.alloc _).later _).alloc _).later _) hn).on ?_); intro xq) | (go_at_call 14; (first | refine (impl_IsRope_any r _).onL ?_ | refine (impl_IsRope_any r _).on ?_); intro xq) | (go_at_call 53; (first | refine (sagAt_any g off n c xs r p _ (by first | exact hs | exact hs.later _ | exact hs.alloc _ | exact (hs.alloc _).later _ | exact (hs.later _).alloc _ | exact ((hs.later _).alloc _).later _ | exact ((hs.alloc _).later _).alloc _ | exact (hs.alloc _).alloc _ | exact ((hs.alloc _).alloc _).later _ | exact (((hs.alloc _).later _).alloc _).later _) hn h0 h1).onL ?_ | refine (sagAt_any g off n c xs r p _ (by first | exact hs | exact hs.later _ | exact hs.alloc _ | exact (hs.alloc _).later _ | exact (hs.later _).alloc _ | exact ((hs.later _).alloc _).later _ | exact ((hs.alloc _).later _).alloc _ | exact (hs.alloc _).alloc _ | exact ((hs.alloc _).alloc _).later _ | exact (((hs.alloc _).later _).alloc _).later _) hn h0 h1).on ?_); intro xq) | (go_at_call 52; (first | refine (lowest_any (r.a * bendX xs p) (2 * r.b) (by omega) (by omega) (by omega) (by omega) _).onL ?_ | refine (lowest_any (r.a * bendX xs p) (2 * r.b) (by omega) (by omega) (by omega) (by omega) _).on ?_); intro xq) | ((with_reducible refine wp_region_later (by kernel_rfl) (by kernel_rfl) ?_); (repeat (go_big_quiet_step (fail))); refine wpQuiet_nil ?_; rintro _ ⟨xr, rfl⟩))
    all_goals (go_ret3; exact ⟨by rw [hfin.out]; try rfl, (by repeat (with_reducible first | exact Below.refl _ _ | refine bw_later ?_ _ | refine bw_alloc ?_ _ | refine bw_drew ?_ | refine bw_set ?_ (Nat.le_refl _) _ | refine bw_set ?_ ?_ _ | exact Nat.le_refl _ | exact later_size _ _ | refine Nat.le_trans ?_ (later_size _ _) | refine Nat.le_trans ?_ (size_alloc_le _ _) | refine Nat.le_trans ?_ (Nat.le_add_right _ _)))⟩)
  cases h1 : isRope r
  · have hfin := Lib.hid (show sagF xs r p = (0, 0, false) by simp [sagF, h0, h1])
    unfold R2.v
    go_enter Try.func28, Try.ntmps28
    go_wp2_with (first | (go_at_call 49; (first | refine (i_on_any g off n c xs p _ (by first | exact hs | exact hs.later _ | exact hs.alloc _ | exact (hs.alloc _).later _ | exact (hs.later _).alloc _ | exact ((hs.later _).alloc _).later _ | exact ((hs.alloc _).later _).alloc _ | exact (hs.alloc _).alloc _ | exact ((hs.alloc _).alloc _).later _ | exact (((hs.alloc _).later _).alloc _).later _) hn).onL ?_ | refine (i_on_any g off n c xs p _ (by first | exact hs | exact hs.later _ | exact hs.alloc _ | exact (hs.alloc _).later _ | exact (hs.later _).alloc _ | exact ((hs.later _).alloc _).later _ | exact ((hs.alloc _).later _).alloc _ | exact (hs.alloc _).alloc _ | exact ((hs.alloc _).alloc _).later _ | exact (((hs.alloc _).later _).alloc _).later _) hn).on ?_); intro xq) | (go_at_call 14; (first | refine (impl_IsRope_any r _).onL ?_ | refine (impl_IsRope_any r _).on ?_); intro xq) | (go_at_call 53; (first | refine (sagAt_any g off n c xs r p _ (by first | exact hs | exact hs.later _ | exact hs.alloc _ | exact (hs.alloc _).later _ | exact (hs.later _).alloc _ | exact ((hs.later _).alloc _).later _ | exact ((hs.alloc _).later _).alloc _ | exact (hs.alloc _).alloc _ | exact ((hs.alloc _).alloc _).later _ | exact (((hs.alloc _).later _).alloc _).later _) hn h0 h1).onL ?_ | refine (sagAt_any g off n c xs r p _ (by first | exact hs | exact hs.later _ | exact hs.alloc _ | exact (hs.alloc _).later _ | exact (hs.later _).alloc _ | exact ((hs.later _).alloc _).later _ | exact ((hs.alloc _).later _).alloc _ | exact (hs.alloc _).alloc _ | exact ((hs.alloc _).alloc _).later _ | exact (((hs.alloc _).later _).alloc _).later _) hn h0 h1).on ?_); intro xq) | (go_at_call 52; (first | refine (lowest_any (r.a * bendX xs p) (2 * r.b) (by omega) (by omega) (by omega) (by omega) _).onL ?_ | refine (lowest_any (r.a * bendX xs p) (2 * r.b) (by omega) (by omega) (by omega) (by omega) _).on ?_); intro xq) | ((with_reducible refine wp_region_later (by kernel_rfl) (by kernel_rfl) ?_); (repeat (go_big_quiet_step (fail))); refine wpQuiet_nil ?_; rintro _ ⟨xr, rfl⟩))
    all_goals (go_ret3; exact ⟨by rw [hfin.out]; try rfl, (by repeat (with_reducible first | exact Below.refl _ _ | refine bw_later ?_ _ | refine bw_alloc ?_ _ | refine bw_drew ?_ | refine bw_set ?_ (Nat.le_refl _) _ | refine bw_set ?_ ?_ _ | exact Nat.le_refl _ | exact later_size _ _ | refine Nat.le_trans ?_ (later_size _ _) | refine Nat.le_trans ?_ (size_alloc_le _ _) | refine Nat.le_trans ?_ (Nat.le_add_right _ _)))⟩)
  have hfin := Lib.hid (show sagF xs r p = (redN (sagN xs r p) (2 * r.b), redD (sagN xs r p) (2 * r.b), true) by simp [sagF, h0, h1])
  obtain ⟨⟨r1, r2⟩, ⟨r3, r4⟩⟩ := rope_bd h1
  obtain ⟨b1, b2⟩ := bendX_bd h0
  obtain ⟨m1, m2⟩ := mul_bd (a := r.a) (b := bendX xs p) (A := 200) (B := 9000000) (by omega) r2 b1 b2
  unfold R2.v
  go_enter Try.func28, Try.ntmps28
  go_wp2_with (first | (go_at_call 49; (first | refine (i_on_any g off n c xs p _ (by first | exact hs | exact hs.later _ | exact hs.alloc _ | exact (hs.alloc _).later _ | exact (hs.later _).alloc _ | exact ((hs.later _).alloc _).later _ | exact ((hs.alloc _).later _).alloc _ | exact (hs.alloc _).alloc _ | exact ((hs.alloc _).alloc _).later _ | exact (((hs.alloc _).later _).alloc _).later _) hn).onL ?_ | refine (i_on_any g off n c xs p _ (by first | exact hs | exact hs.later _ | exact hs.alloc _ | exact (hs.alloc _).later _ | exact (hs.later _).alloc _ | exact ((hs.later _).alloc _).later _ | exact ((hs.alloc _).later _).alloc _ | exact (hs.alloc _).alloc _ | exact ((hs.alloc _).alloc _).later _ | exact (((hs.alloc _).later _).alloc _).later _) hn).on ?_); intro xq) | (go_at_call 14; (first | refine (impl_IsRope_any r _).onL ?_ | refine (impl_IsRope_any r _).on ?_); intro xq) | (go_at_call 53; (first | refine (sagAt_any g off n c xs r p _ (by first | exact hs | exact hs.later _ | exact hs.alloc _ | exact (hs.alloc _).later _ | exact (hs.later _).alloc _ | exact ((hs.later _).alloc _).later _ | exact ((hs.alloc _).later _).alloc _ | exact (hs.alloc _).alloc _ | exact ((hs.alloc _).alloc _).later _ | exact (((hs.alloc _).later _).alloc _).later _) hn h0 h1).onL ?_ | refine (sagAt_any g off n c xs r p _ (by first | exact hs | exact hs.later _ | exact hs.alloc _ | exact (hs.alloc _).later _ | exact (hs.later _).alloc _ | exact ((hs.later _).alloc _).later _ | exact ((hs.alloc _).later _).alloc _ | exact (hs.alloc _).alloc _ | exact ((hs.alloc _).alloc _).later _ | exact (((hs.alloc _).later _).alloc _).later _) hn h0 h1).on ?_); intro xq) | (go_at_call 52; (first | refine (lowest_any (r.a * bendX xs p) (2 * r.b) (by omega) (by omega) (by omega) (by omega) _).onL ?_ | refine (lowest_any (r.a * bendX xs p) (2 * r.b) (by omega) (by omega) (by omega) (by omega) _).on ?_); intro xq) | ((with_reducible refine wp_region_later (by kernel_rfl) (by kernel_rfl) ?_); (repeat (go_big_quiet_step (fail))); refine wpQuiet_nil ?_; rintro _ ⟨xr, rfl⟩))
  all_goals (go_ret3; exact ⟨by rw [hfin.out]; try rfl, (by repeat (with_reducible first | exact Below.refl _ _ | refine bw_later ?_ _ | refine bw_alloc ?_ _ | refine bw_drew ?_ | refine bw_set ?_ (Nat.le_refl _) _ | refine bw_set ?_ ?_ _ | exact Nat.le_refl _ | exact later_size _ _ | refine Nat.le_trans ?_ (later_size _ _) | refine Nat.le_trans ?_ (size_alloc_le _ _) | refine Nat.le_trans ?_ (Nat.le_add_right _ _)))⟩)
theorem s_SagAt_any (g off n c : Nat) (xs : List Sup) (r : R2) (p : Int) (w : World) (hs : SSup w g off n xs) (hn : n ≤ 1048576) : Gv Try.prog 27 #[.slice (some ⟨g, off, none⟩) n c, r.v, .int .i64 p] w (.tuple #[.int .i64 ((sagF xs r p)).1, .int .i64 (((sagF xs r p)).2).1, .bool (((sagF xs r p)).2).2]) := by
  unfold Gv
  cases h0 : onLine xs p
  · have hfin := Lib.hid (show sagF xs r p = (0, 0, false) by simp [sagF, h0])
    unfold R2.v
    go_enter Try.func27, Try.ntmps27
    go_wp2_with (first | (go_at_call 45; (first | refine (l4Asked_any g off n c xs r p _ (by first | exact hs | exact hs.later _ | exact hs.alloc _ | exact (hs.alloc _).later _ | exact (hs.later _).alloc _ | exact ((hs.later _).alloc _).later _ | exact ((hs.alloc _).later _).alloc _ | exact (hs.alloc _).alloc _ | exact ((hs.alloc _).alloc _).later _ | exact (((hs.alloc _).later _).alloc _).later _) hn).onL ?_ | refine (l4Asked_any g off n c xs r p _ (by first | exact hs | exact hs.later _ | exact hs.alloc _ | exact (hs.alloc _).later _ | exact (hs.later _).alloc _ | exact ((hs.later _).alloc _).later _ | exact ((hs.alloc _).later _).alloc _ | exact (hs.alloc _).alloc _ | exact ((hs.alloc _).alloc _).later _ | exact (((hs.alloc _).later _).alloc _).later _) hn).on ?_); intro xq) | (go_at_call 47; (first | refine (l4Parts_any g off n c xs p _ (by first | exact hs | exact hs.later _ | exact hs.alloc _ | exact (hs.alloc _).later _ | exact (hs.later _).alloc _ | exact ((hs.later _).alloc _).later _ | exact ((hs.alloc _).later _).alloc _ | exact (hs.alloc _).alloc _ | exact ((hs.alloc _).alloc _).later _ | exact (((hs.alloc _).later _).alloc _).later _) hn h0).onL ?_ | refine (l4Parts_any g off n c xs p _ (by first | exact hs | exact hs.later _ | exact hs.alloc _ | exact (hs.alloc _).later _ | exact (hs.later _).alloc _ | exact ((hs.later _).alloc _).later _ | exact ((hs.alloc _).later _).alloc _ | exact (hs.alloc _).alloc _ | exact ((hs.alloc _).alloc _).later _ | exact (((hs.alloc _).later _).alloc _).later _) hn h0).on ?_); intro xq) | (go_at_call 51; (first | refine (reduce_any (r.a * partX xs p * partY xs p) (2 * r.b) (by omega) (by omega) (by omega) (by omega) _).onL ?_ | refine (reduce_any (r.a * partX xs p * partY xs p) (2 * r.b) (by omega) (by omega) (by omega) (by omega) _).on ?_); intro xq) | ((with_reducible refine wp_region_later (by kernel_rfl) (by kernel_rfl) ?_); (repeat (go_big_quiet_step (fail))); refine wpQuiet_nil ?_; rintro _ ⟨xr, rfl⟩))
    all_goals (go_ret3; exact ⟨by rw [hfin.out]; try rfl, (by repeat (with_reducible first | exact Below.refl _ _ | refine bw_later ?_ _ | refine bw_alloc ?_ _ | refine bw_drew ?_ | refine bw_set ?_ (Nat.le_refl _) _ | refine bw_set ?_ ?_ _ | exact Nat.le_refl _ | exact later_size _ _ | refine Nat.le_trans ?_ (later_size _ _) | refine Nat.le_trans ?_ (size_alloc_le _ _) | refine Nat.le_trans ?_ (Nat.le_add_right _ _)))⟩)
  cases h1 : isRope r
  · have hfin := Lib.hid (show sagF xs r p = (0, 0, false) by simp [sagF, h0, h1])
    unfold R2.v
    go_enter Try.func27, Try.ntmps27
    go_wp2_with (first | (go_at_call 45; (first | refine (l4Asked_any g off n c xs r p _ (by first | exact hs | exact hs.later _ | exact hs.alloc _ | exact (hs.alloc _).later _ | exact (hs.later _).alloc _ | exact ((hs.later _).alloc _).later _ | exact ((hs.alloc _).later _).alloc _ | exact (hs.alloc _).alloc _ | exact ((hs.alloc _).alloc _).later _ | exact (((hs.alloc _).later _).alloc _).later _) hn).onL ?_ | refine (l4Asked_any g off n c xs r p _ (by first | exact hs | exact hs.later _ | exact hs.alloc _ | exact (hs.alloc _).later _ | exact (hs.later _).alloc _ | exact ((hs.later _).alloc _).later _ | exact ((hs.alloc _).later _).alloc _ | exact (hs.alloc _).alloc _ | exact ((hs.alloc _).alloc _).later _ | exact (((hs.alloc _).later _).alloc _).later _) hn).on ?_); intro xq) | (go_at_call 47; (first | refine (l4Parts_any g off n c xs p _ (by first | exact hs | exact hs.later _ | exact hs.alloc _ | exact (hs.alloc _).later _ | exact (hs.later _).alloc _ | exact ((hs.later _).alloc _).later _ | exact ((hs.alloc _).later _).alloc _ | exact (hs.alloc _).alloc _ | exact ((hs.alloc _).alloc _).later _ | exact (((hs.alloc _).later _).alloc _).later _) hn h0).onL ?_ | refine (l4Parts_any g off n c xs p _ (by first | exact hs | exact hs.later _ | exact hs.alloc _ | exact (hs.alloc _).later _ | exact (hs.later _).alloc _ | exact ((hs.later _).alloc _).later _ | exact ((hs.alloc _).later _).alloc _ | exact (hs.alloc _).alloc _ | exact ((hs.alloc _).alloc _).later _ | exact (((hs.alloc _).later _).alloc _).later _) hn h0).on ?_); intro xq) | (go_at_call 51; (first | refine (reduce_any (r.a * partX xs p * partY xs p) (2 * r.b) (by omega) (by omega) (by omega) (by omega) _).onL ?_ | refine (reduce_any (r.a * partX xs p * partY xs p) (2 * r.b) (by omega) (by omega) (by omega) (by omega) _).on ?_); intro xq) | ((with_reducible refine wp_region_later (by kernel_rfl) (by kernel_rfl) ?_); (repeat (go_big_quiet_step (fail))); refine wpQuiet_nil ?_; rintro _ ⟨xr, rfl⟩))
    all_goals (go_ret3; exact ⟨by rw [hfin.out]; try rfl, (by repeat (with_reducible first | exact Below.refl _ _ | refine bw_later ?_ _ | refine bw_alloc ?_ _ | refine bw_drew ?_ | refine bw_set ?_ (Nat.le_refl _) _ | refine bw_set ?_ ?_ _ | exact Nat.le_refl _ | exact later_size _ _ | refine Nat.le_trans ?_ (later_size _ _) | refine Nat.le_trans ?_ (size_alloc_le _ _) | refine Nat.le_trans ?_ (Nat.le_add_right _ _)))⟩)
  have hfin := Lib.hid (show sagF xs r p = (redN (sagN xs r p) (2 * r.b), redD (sagN xs r p) (2 * r.b), true) by simp [sagF, h0, h1])
  obtain ⟨⟨r1, r2⟩, ⟨r3, r4⟩⟩ := rope_bd h1
  obtain ⟨⟨x1, x2⟩, ⟨y1, y2⟩⟩ := parts_bd h0
  obtain ⟨m1, m2⟩ := mul_bd (a := r.a) (b := partX xs p) (A := 200) (B := 3000) (by omega) r2 x1 x2
  obtain ⟨m3, m4⟩ := mul_bd (a := r.a * partX xs p) (b := partY xs p) (A := 600000) (B := 3000) m1 (by omega) y1 y2
  unfold R2.v
  go_enter Try.func27, Try.ntmps27
  go_wp2_with (first | (go_at_call 45; (first | refine (l4Asked_any g off n c xs r p _ (by first | exact hs | exact hs.later _ | exact hs.alloc _ | exact (hs.alloc _).later _ | exact (hs.later _).alloc _ | exact ((hs.later _).alloc _).later _ | exact ((hs.alloc _).later _).alloc _ | exact (hs.alloc _).alloc _ | exact ((hs.alloc _).alloc _).later _ | exact (((hs.alloc _).later _).alloc _).later _) hn).onL ?_ | refine (l4Asked_any g off n c xs r p _ (by first | exact hs | exact hs.later _ | exact hs.alloc _ | exact (hs.alloc _).later _ | exact (hs.later _).alloc _ | exact ((hs.later _).alloc _).later _ | exact ((hs.alloc _).later _).alloc _ | exact (hs.alloc _).alloc _ | exact ((hs.alloc _).alloc _).later _ | exact (((hs.alloc _).later _).alloc _).later _) hn).on ?_); intro xq) | (go_at_call 47; (first | refine (l4Parts_any g off n c xs p _ (by first | exact hs | exact hs.later _ | exact hs.alloc _ | exact (hs.alloc _).later _ | exact (hs.later _).alloc _ | exact ((hs.later _).alloc _).later _ | exact ((hs.alloc _).later _).alloc _ | exact (hs.alloc _).alloc _ | exact ((hs.alloc _).alloc _).later _ | exact (((hs.alloc _).later _).alloc _).later _) hn h0).onL ?_ | refine (l4Parts_any g off n c xs p _ (by first | exact hs | exact hs.later _ | exact hs.alloc _ | exact (hs.alloc _).later _ | exact (hs.later _).alloc _ | exact ((hs.later _).alloc _).later _ | exact ((hs.alloc _).later _).alloc _ | exact (hs.alloc _).alloc _ | exact ((hs.alloc _).alloc _).later _ | exact (((hs.alloc _).later _).alloc _).later _) hn h0).on ?_); intro xq) | (go_at_call 51; (first | refine (reduce_any (r.a * partX xs p * partY xs p) (2 * r.b) (by omega) (by omega) (by omega) (by omega) _).onL ?_ | refine (reduce_any (r.a * partX xs p * partY xs p) (2 * r.b) (by omega) (by omega) (by omega) (by omega) _).on ?_); intro xq) | ((with_reducible refine wp_region_later (by kernel_rfl) (by kernel_rfl) ?_); (repeat (go_big_quiet_step (fail))); refine wpQuiet_nil ?_; rintro _ ⟨xr, rfl⟩))
  all_goals (go_ret3; exact ⟨by rw [hfin.out, sag_eq]; try rfl, (by repeat (with_reducible first | exact Below.refl _ _ | refine bw_later ?_ _ | refine bw_alloc ?_ _ | refine bw_drew ?_ | refine bw_set ?_ (Nat.le_refl _) _ | refine bw_set ?_ ?_ _ | exact Nat.le_refl _ | exact later_size _ _ | refine Nat.le_trans ?_ (later_size _ _) | refine Nat.le_trans ?_ (size_alloc_le _ _) | refine Nat.le_trans ?_ (Nat.le_add_right _ _)))⟩)
theorem law_SagAt (A0 : Option Addr) (n0 c0 : Nat) (xs0 : List Sup) (r1 : R2) (a2 : Int) (w : World) (rd0 : ASup w A0 n0 xs0 ∧ n0 ≤ 9223372036854775807) (_ia2 : I64 a2) : Gv Try.prog 7 #[.slice A0 n0 c0, r1.v, .int .i64 a2] w (.bool true) := by
  obtain ⟨ha0, hm0⟩ := rd0
  replace ha0 := ha0.below2 (w' := (w.alloc (.cells #[.int .i64 r1.a, .int .i64 r1.b] 23))) (bw_alloc (Below.refl _ _) _)
  unfold Gv
  unfold R2.v
  by_cases k0 : 1048576 < n0
  · have z0 : szF n0 ((1048576 : Int)) = -1 := by unfold szF; rw [if_pos (by omega)]
    go_enter Try.func7, Try.ntmps7
    go_wp2_with fail
    refine Calls.mono (szSupport_any A0 n0 c0 ((1048576 : Int)) hm0 (by omega) (by omega) _) ?_
    rintro _ w1 ⟨rfl, b1⟩
    have hw := b1
    rw [z0]
    clear z0
    go_wp2_with fail
    go_ret
    exact ⟨rfl, bw_trans (bw_alloc (Below.refl _ _) _) hw⟩
  · have hn0 : n0 ≤ 1048576 := by omega
    have z0 : szF n0 ((1048576 : Int)) = (1048576 : Int) - (n0 : Int) := by unfold szF; rw [if_neg (by omega)]
    go_enter Try.func7, Try.ntmps7
    go_wp2_with fail
    refine Calls.mono (szSupport_any A0 n0 c0 ((1048576 : Int)) hm0 (by omega) (by omega) _) ?_
    rintro _ w1 ⟨rfl, b1⟩
    replace ha0 := ha0.below2 b1
    have hw := b1
    rw [z0]
    clear z0
    go_wp2_with fail
    (refine wp_region_C (Below (w1).heap.size (w1)) (by kernel_rfl) ?_)
    generalize hgd2 : w1.drew = w2
    have b2 : Below w1.heap.size w1 w2 := by rw [← hgd2]; exact (Below.refl _ _).drew
    clear hgd2
    have f1_0 : w1.cell? ⟨w.heap.size, 0, none⟩ = some (.int .i64 r1.a) := (hw.cell (p := ⟨_, _, none⟩) (by simp)).trans (by simp [go_sem])
    have f1_1 : w1.cell? ⟨w.heap.size, 1, none⟩ = some (.int .i64 r1.b) := (hw.cell (p := ⟨_, _, none⟩) (by simp)).trans (by simp [go_sem])
    have g1_ : w.heap.size < w1.heap.size := by have := hw.size; simp at this; omega
    have hreg := b2
    refine step_read (i := 0) (by kernel_rfl) (by kernel_rfl) rfl hreg rfl (fun K hK => ?_)
    apply Exists.intro
    refine ⟨fun x => ?_, ?_⟩
    · go_simp; (try rfl)
    go_simp; refine hK _ ?_; clear hK K
    refine step_read (i := 2) (by kernel_rfl) (by kernel_rfl) rfl hreg rfl (fun K hK => ?_)
    apply Exists.intro
    refine ⟨fun x => ?_, ?_⟩
    · go_simp; (try rfl)
    go_simp; refine hK _ ?_; clear hK K
    refine step_read (i := 4) (by kernel_rfl) (by kernel_rfl) rfl hreg rfl (fun K hK => ?_)
    apply Exists.intro
    refine ⟨fun x => ?_, ?_⟩
    · go_simp; (try rfl)
    go_simp; refine hK _ ?_; clear hK K
    clear f1_0 f1_1 g1_
    replace ha0 := ha0.below2 b2
    replace hw := bw_trans hw b2
    refine step_one (i := 1) (by kernel_rfl) rfl hreg (fun K hK => ?_)
    go_wp2_with fail
    refine Calls.mono (toSupportS_any A0 n0 c0 xs0 _ ha0 hn0) ?_
    rintro _ w3 ⟨g3, rfl, q3, hB3, b3⟩
    replace ha0 := ha0.below2 b3
    replace hw := bw_trans hw b3
    replace hreg := bw_trans hreg b3
    (try go_wp2)
    (try refine hK _ _ ?_)
    (try clear hK K)
    refine step_one (i := 3) (by kernel_rfl) rfl hreg (fun K hK => ?_)
    go_wp2_with fail
    refine Calls.mono (toRope_any r1 _) ?_
    rintro _ w4 ⟨rfl, b4⟩
    replace ha0 := ha0.below2 b4
    replace hB3 := hB3.below2 b4
    replace hw := bw_trans hw b4
    (try unfold R2.v)
    replace hreg := bw_trans hreg b4
    (try go_wp2)
    (try refine hK _ _ ?_)
    (try clear hK K)
    refine step_one (i := 5) (by kernel_rfl) rfl hreg (fun K hK => ?_)
    go_wp2_with fail
    refine Calls.mono (s_SagAt_any g3 0 n0 n0 xs0 r1 a2 _ hB3.reads hn0) ?_
    rintro _ w5 ⟨rfl, b5⟩
    replace ha0 := ha0.below2 b5
    replace hB3 := hB3.below2 b5
    replace hw := bw_trans hw b5
    replace hreg := bw_trans hreg b5
    (try go_wp2)
    (try refine hK _ _ ?_)
    (try clear hK K)
    refine step_read (i := 6) (by kernel_rfl) (by kernel_rfl) rfl hreg rfl (fun K hK => ?_)
    apply Exists.intro
    refine ⟨fun x => ?_, ?_⟩
    · go_simp; (try rfl)
    go_simp; refine hK _ ?_; clear hK K
    refine step_read (i := 7) (by kernel_rfl) (by kernel_rfl) rfl hreg rfl (fun K hK => ?_)
    apply Exists.intro
    refine ⟨fun x => ?_, ?_⟩
    · go_simp; (try rfl)
    go_simp; refine hK _ ?_; clear hK K
    refine step_read (i := 8) (by kernel_rfl) (by kernel_rfl) rfl hreg rfl (fun K hK => ?_)
    apply Exists.intro
    refine ⟨fun x => ?_, ?_⟩
    · go_simp; (try rfl)
    go_simp; refine hK _ ?_; clear hK K
    refine step_read (i := 9) (by kernel_rfl) (by kernel_rfl) rfl hreg rfl (fun K hK => ?_)
    apply Exists.intro
    refine ⟨fun x => ?_, ?_⟩
    · go_simp; (try rfl)
    go_simp; refine hK _ ?_; clear hK K
    refine step_read (i := 10) (by kernel_rfl) (by kernel_rfl) rfl hreg rfl (fun K hK => ?_)
    apply Exists.intro
    refine ⟨fun x => ?_, ?_⟩
    · go_simp; (try rfl)
    go_simp; refine hK _ ?_; clear hK K
    refine step_read (i := 11) (by kernel_rfl) (by kernel_rfl) rfl hreg rfl (fun K hK => ?_)
    apply Exists.intro
    refine ⟨fun x => ?_, ?_⟩
    · go_simp; (try rfl)
    go_simp; refine hK _ ?_; clear hK K
    refine step_read (i := 12) (by kernel_rfl) (by kernel_rfl) rfl hreg rfl (fun K hK => ?_)
    apply Exists.intro
    refine ⟨fun x => ?_, ?_⟩
    · go_simp; (try rfl)
    go_simp; refine hK _ ?_; clear hK K
    refine step_end (by kernel_rfl) hreg ?_
    clear hreg
    go_wp2_with fail
    refine Calls.mono (toSupportS_any A0 n0 c0 xs0 _ ha0 hn0) ?_
    rintro _ w6 ⟨g6, rfl, q6, hB6, b6⟩
    replace ha0 := ha0.below2 b6
    replace hB3 := hB3.below2 b6
    replace hw := bw_trans hw b6
    have e0 : w6.cell? ⟨w.heap.size, 0, none⟩ = some (.int .i64 r1.a) := (hw.cell (p := ⟨_, _, none⟩) (by simp)).trans (by simp [go_sem])
    have e1 : w6.cell? ⟨w.heap.size, 1, none⟩ = some (.int .i64 r1.b) := (hw.cell (p := ⟨_, _, none⟩) (by simp)).trans (by simp [go_sem])
    go_wp2_with fail
    refine Calls.mono (toRope_any r1 _) ?_
    rintro _ w7 ⟨rfl, b7⟩
    replace ha0 := ha0.below2 b7
    replace hB3 := hB3.below2 b7
    replace hB6 := hB6.below2 b7
    replace hw := bw_trans hw b7
    unfold R2.v
    clear e0 e1
    go_wp2_with fail
    refine Calls.mono (i_SagAt_any g6 0 n0 n0 xs0 r1 a2 _ hB6.reads hn0) ?_
    rintro _ w8 ⟨rfl, b8⟩
    replace ha0 := ha0.below2 b8
    replace hB3 := hB3.below2 b8
    replace hB6 := hB6.below2 b8
    replace hw := bw_trans hw b8
    go_wp2_with fail
    refine Calls.mono (toSupportS_any A0 n0 c0 xs0 _ ha0 hn0) ?_
    rintro _ w9 ⟨g9, rfl, q9, hB9, b9⟩
    replace ha0 := ha0.below2 b9
    replace hB3 := hB3.below2 b9
    replace hB6 := hB6.below2 b9
    replace hw := bw_trans hw b9
    go_wp2_with fail
    refine Calls.mono (eqSupportS_any _ _ n0 n0 n0 n0 xs0 xs0 _ (ASup.of hB6.reads) (ASup.of hB9.reads) hn0 hn0) ?_
    rintro _ w10 ⟨rfl, b10⟩
    replace ha0 := ha0.below2 b10
    replace hB3 := hB3.below2 b10
    replace hB6 := hB6.below2 b10
    replace hB9 := hB9.below2 b10
    replace hw := bw_trans hw b10
    go_wp2_with fail
    go_ret
    exact ⟨rfl, bw_trans (bw_alloc (Below.refl _ _) _) hw⟩
theorem i_LoadedSag_any (g off n c : Nat) (xs : List Sup) (r : R2) (p : Int) (l : Int) (w : World) (hs : SSup w g off n xs) (hn : n ≤ 1048576) : Gv Try.prog 26 #[.slice (some ⟨g, off, none⟩) n c, r.v, .int .i64 p, .int .i64 l] w (.tuple #[.int .i64 ((loadF xs r p l)).1, .int .i64 (((loadF xs r p l)).2).1, .bool (((loadF xs r p l)).2).2]) := by
  unfold Gv
  cases h0 : onLine xs p
  · have hfin := Lib.hid (show loadF xs r p l = (0, 0, false) by simp [loadF, h0])
    unfold R2.v
    go_enter Try.func26, Try.ntmps26
    go_wp2_with (first | (go_at_call 49; (first | refine (i_on_any g off n c xs p _ (by first | exact hs | exact hs.later _ | exact hs.alloc _ | exact (hs.alloc _).later _ | exact (hs.later _).alloc _ | exact ((hs.later _).alloc _).later _ | exact ((hs.alloc _).later _).alloc _ | exact (hs.alloc _).alloc _ | exact ((hs.alloc _).alloc _).later _ | exact (((hs.alloc _).later _).alloc _).later _) hn).onL ?_ | refine (i_on_any g off n c xs p _ (by first | exact hs | exact hs.later _ | exact hs.alloc _ | exact (hs.alloc _).later _ | exact (hs.later _).alloc _ | exact ((hs.later _).alloc _).later _ | exact ((hs.alloc _).later _).alloc _ | exact (hs.alloc _).alloc _ | exact ((hs.alloc _).alloc _).later _ | exact (((hs.alloc _).later _).alloc _).later _) hn).on ?_); intro xq) | (go_at_call 14; (first | refine (impl_IsRope_any r _).onL ?_ | refine (impl_IsRope_any r _).on ?_); intro xq) | (go_at_call 38; (first | refine (within_any _ _ _ _).onL ?_ | refine (within_any _ _ _ _).on ?_); intro xq) | (go_at_call 50; (first | refine (bend_any g off n c xs p _ (by first | exact hs | exact hs.later _ | exact hs.alloc _ | exact (hs.alloc _).later _ | exact (hs.later _).alloc _ | exact ((hs.later _).alloc _).later _ | exact ((hs.alloc _).later _).alloc _ | exact (hs.alloc _).alloc _ | exact ((hs.alloc _).alloc _).later _ | exact (((hs.alloc _).later _).alloc _).later _) hn h0).onL ?_ | refine (bend_any g off n c xs p _ (by first | exact hs | exact hs.later _ | exact hs.alloc _ | exact (hs.alloc _).later _ | exact (hs.later _).alloc _ | exact ((hs.later _).alloc _).later _ | exact ((hs.alloc _).later _).alloc _ | exact (hs.alloc _).alloc _ | exact ((hs.alloc _).alloc _).later _ | exact (((hs.alloc _).later _).alloc _).later _) hn h0).on ?_); intro xq) | (go_at_call 52; (first | refine (lowest_any (bendX xs p * (r.a * spanL xs p + 2 * l)) (2 * spanL xs p * r.b) (by omega) (by omega) (by omega) (by omega) _).onL ?_ | refine (lowest_any (bendX xs p * (r.a * spanL xs p + 2 * l)) (2 * spanL xs p * r.b) (by omega) (by omega) (by omega) (by omega) _).on ?_); intro xq) | ((with_reducible refine wp_region_later (by kernel_rfl) (by kernel_rfl) ?_); (repeat (go_big_quiet_step (fail))); refine wpQuiet_nil ?_; rintro _ ⟨xr, rfl⟩))
    all_goals (go_ret3; exact ⟨by rw [hfin.out]; try rfl, (by repeat (with_reducible first | exact Below.refl _ _ | refine bw_later ?_ _ | refine bw_alloc ?_ _ | refine bw_drew ?_ | refine bw_set ?_ (Nat.le_refl _) _ | refine bw_set ?_ ?_ _ | exact Nat.le_refl _ | exact later_size _ _ | refine Nat.le_trans ?_ (later_size _ _) | refine Nat.le_trans ?_ (size_alloc_le _ _) | refine Nat.le_trans ?_ (Nat.le_add_right _ _)))⟩)
  cases h1 : isRope r
  · have hfin := Lib.hid (show loadF xs r p l = (0, 0, false) by simp [loadF, h0, h1])
    unfold R2.v
    go_enter Try.func26, Try.ntmps26
    go_wp2_with (first | (go_at_call 49; (first | refine (i_on_any g off n c xs p _ (by first | exact hs | exact hs.later _ | exact hs.alloc _ | exact (hs.alloc _).later _ | exact (hs.later _).alloc _ | exact ((hs.later _).alloc _).later _ | exact ((hs.alloc _).later _).alloc _ | exact (hs.alloc _).alloc _ | exact ((hs.alloc _).alloc _).later _ | exact (((hs.alloc _).later _).alloc _).later _) hn).onL ?_ | refine (i_on_any g off n c xs p _ (by first | exact hs | exact hs.later _ | exact hs.alloc _ | exact (hs.alloc _).later _ | exact (hs.later _).alloc _ | exact ((hs.later _).alloc _).later _ | exact ((hs.alloc _).later _).alloc _ | exact (hs.alloc _).alloc _ | exact ((hs.alloc _).alloc _).later _ | exact (((hs.alloc _).later _).alloc _).later _) hn).on ?_); intro xq) | (go_at_call 14; (first | refine (impl_IsRope_any r _).onL ?_ | refine (impl_IsRope_any r _).on ?_); intro xq) | (go_at_call 38; (first | refine (within_any _ _ _ _).onL ?_ | refine (within_any _ _ _ _).on ?_); intro xq) | (go_at_call 50; (first | refine (bend_any g off n c xs p _ (by first | exact hs | exact hs.later _ | exact hs.alloc _ | exact (hs.alloc _).later _ | exact (hs.later _).alloc _ | exact ((hs.later _).alloc _).later _ | exact ((hs.alloc _).later _).alloc _ | exact (hs.alloc _).alloc _ | exact ((hs.alloc _).alloc _).later _ | exact (((hs.alloc _).later _).alloc _).later _) hn h0).onL ?_ | refine (bend_any g off n c xs p _ (by first | exact hs | exact hs.later _ | exact hs.alloc _ | exact (hs.alloc _).later _ | exact (hs.later _).alloc _ | exact ((hs.later _).alloc _).later _ | exact ((hs.alloc _).later _).alloc _ | exact (hs.alloc _).alloc _ | exact ((hs.alloc _).alloc _).later _ | exact (((hs.alloc _).later _).alloc _).later _) hn h0).on ?_); intro xq) | (go_at_call 52; (first | refine (lowest_any (bendX xs p * (r.a * spanL xs p + 2 * l)) (2 * spanL xs p * r.b) (by omega) (by omega) (by omega) (by omega) _).onL ?_ | refine (lowest_any (bendX xs p * (r.a * spanL xs p + 2 * l)) (2 * spanL xs p * r.b) (by omega) (by omega) (by omega) (by omega) _).on ?_); intro xq) | ((with_reducible refine wp_region_later (by kernel_rfl) (by kernel_rfl) ?_); (repeat (go_big_quiet_step (fail))); refine wpQuiet_nil ?_; rintro _ ⟨xr, rfl⟩))
    all_goals (go_ret3; exact ⟨by rw [hfin.out]; try rfl, (by repeat (with_reducible first | exact Below.refl _ _ | refine bw_later ?_ _ | refine bw_alloc ?_ _ | refine bw_drew ?_ | refine bw_set ?_ (Nat.le_refl _) _ | refine bw_set ?_ ?_ _ | exact Nat.le_refl _ | exact later_size _ _ | refine Nat.le_trans ?_ (later_size _ _) | refine Nat.le_trans ?_ (size_alloc_le _ _) | refine Nat.le_trans ?_ (Nat.le_add_right _ _)))⟩)
  cases h2 : inB l 0 20000
  · have hfin := Lib.hid (show loadF xs r p l = (0, 0, false) by simp [loadF, h0, h1, h2])
    unfold R2.v
    go_enter Try.func26, Try.ntmps26
    go_wp2_with (first | (go_at_call 49; (first | refine (i_on_any g off n c xs p _ (by first | exact hs | exact hs.later _ | exact hs.alloc _ | exact (hs.alloc _).later _ | exact (hs.later _).alloc _ | exact ((hs.later _).alloc _).later _ | exact ((hs.alloc _).later _).alloc _ | exact (hs.alloc _).alloc _ | exact ((hs.alloc _).alloc _).later _ | exact (((hs.alloc _).later _).alloc _).later _) hn).onL ?_ | refine (i_on_any g off n c xs p _ (by first | exact hs | exact hs.later _ | exact hs.alloc _ | exact (hs.alloc _).later _ | exact (hs.later _).alloc _ | exact ((hs.later _).alloc _).later _ | exact ((hs.alloc _).later _).alloc _ | exact (hs.alloc _).alloc _ | exact ((hs.alloc _).alloc _).later _ | exact (((hs.alloc _).later _).alloc _).later _) hn).on ?_); intro xq) | (go_at_call 14; (first | refine (impl_IsRope_any r _).onL ?_ | refine (impl_IsRope_any r _).on ?_); intro xq) | (go_at_call 38; (first | refine (within_any _ _ _ _).onL ?_ | refine (within_any _ _ _ _).on ?_); intro xq) | (go_at_call 50; (first | refine (bend_any g off n c xs p _ (by first | exact hs | exact hs.later _ | exact hs.alloc _ | exact (hs.alloc _).later _ | exact (hs.later _).alloc _ | exact ((hs.later _).alloc _).later _ | exact ((hs.alloc _).later _).alloc _ | exact (hs.alloc _).alloc _ | exact ((hs.alloc _).alloc _).later _ | exact (((hs.alloc _).later _).alloc _).later _) hn h0).onL ?_ | refine (bend_any g off n c xs p _ (by first | exact hs | exact hs.later _ | exact hs.alloc _ | exact (hs.alloc _).later _ | exact (hs.later _).alloc _ | exact ((hs.later _).alloc _).later _ | exact ((hs.alloc _).later _).alloc _ | exact (hs.alloc _).alloc _ | exact ((hs.alloc _).alloc _).later _ | exact (((hs.alloc _).later _).alloc _).later _) hn h0).on ?_); intro xq) | (go_at_call 52; (first | refine (lowest_any (bendX xs p * (r.a * spanL xs p + 2 * l)) (2 * spanL xs p * r.b) (by omega) (by omega) (by omega) (by omega) _).onL ?_ | refine (lowest_any (bendX xs p * (r.a * spanL xs p + 2 * l)) (2 * spanL xs p * r.b) (by omega) (by omega) (by omega) (by omega) _).on ?_); intro xq) | ((with_reducible refine wp_region_later (by kernel_rfl) (by kernel_rfl) ?_); (repeat (go_big_quiet_step (fail))); refine wpQuiet_nil ?_; rintro _ ⟨xr, rfl⟩))
    all_goals (go_ret3; exact ⟨by rw [hfin.out]; try rfl, (by repeat (with_reducible first | exact Below.refl _ _ | refine bw_later ?_ _ | refine bw_alloc ?_ _ | refine bw_drew ?_ | refine bw_set ?_ (Nat.le_refl _) _ | refine bw_set ?_ ?_ _ | exact Nat.le_refl _ | exact later_size _ _ | refine Nat.le_trans ?_ (later_size _ _) | refine Nat.le_trans ?_ (size_alloc_le _ _) | refine Nat.le_trans ?_ (Nat.le_add_right _ _)))⟩)
  have hfin := Lib.hid (show loadF xs r p l = (redN (loadN xs r p l) (loadD xs r p), redD (loadN xs r p l) (loadD xs r p), true) by simp [loadF, h0, h1, h2])
  obtain ⟨⟨r1, r2⟩, ⟨r3, r4⟩⟩ := rope_bd h1
  obtain ⟨l1, l2⟩ := inB_t h2
  obtain ⟨b1, b2⟩ := bendX_bd h0
  obtain ⟨s1, s2⟩ := spanL_bd h0
  obtain ⟨m1, m2⟩ := mul_bd (a := r.a) (b := spanL xs p) (A := 200) (B := 3000) (by omega) r2 (by omega) s2
  obtain ⟨m3, m4⟩ := mul_bd (a := bendX xs p) (b := r.a * spanL xs p + 2 * l) (A := 9000000) (B := 640000) b1 b2 (by omega) (by omega)
  obtain ⟨m5, m6⟩ := mul_bd (a := 2 * spanL xs p) (b := r.b) (A := 6000) (B := 100000) (by omega) (by omega) (by omega) r4
  have m7 := one_le_mul (a := 2 * spanL xs p) (b := r.b) (by omega) r3
  unfold R2.v
  go_enter Try.func26, Try.ntmps26
  go_wp2_with (first | (go_at_call 49; (first | refine (i_on_any g off n c xs p _ (by first | exact hs | exact hs.later _ | exact hs.alloc _ | exact (hs.alloc _).later _ | exact (hs.later _).alloc _ | exact ((hs.later _).alloc _).later _ | exact ((hs.alloc _).later _).alloc _ | exact (hs.alloc _).alloc _ | exact ((hs.alloc _).alloc _).later _ | exact (((hs.alloc _).later _).alloc _).later _) hn).onL ?_ | refine (i_on_any g off n c xs p _ (by first | exact hs | exact hs.later _ | exact hs.alloc _ | exact (hs.alloc _).later _ | exact (hs.later _).alloc _ | exact ((hs.later _).alloc _).later _ | exact ((hs.alloc _).later _).alloc _ | exact (hs.alloc _).alloc _ | exact ((hs.alloc _).alloc _).later _ | exact (((hs.alloc _).later _).alloc _).later _) hn).on ?_); intro xq) | (go_at_call 14; (first | refine (impl_IsRope_any r _).onL ?_ | refine (impl_IsRope_any r _).on ?_); intro xq) | (go_at_call 38; (first | refine (within_any _ _ _ _).onL ?_ | refine (within_any _ _ _ _).on ?_); intro xq) | (go_at_call 50; (first | refine (bend_any g off n c xs p _ (by first | exact hs | exact hs.later _ | exact hs.alloc _ | exact (hs.alloc _).later _ | exact (hs.later _).alloc _ | exact ((hs.later _).alloc _).later _ | exact ((hs.alloc _).later _).alloc _ | exact (hs.alloc _).alloc _ | exact ((hs.alloc _).alloc _).later _ | exact (((hs.alloc _).later _).alloc _).later _) hn h0).onL ?_ | refine (bend_any g off n c xs p _ (by first | exact hs | exact hs.later _ | exact hs.alloc _ | exact (hs.alloc _).later _ | exact (hs.later _).alloc _ | exact ((hs.later _).alloc _).later _ | exact ((hs.alloc _).later _).alloc _ | exact (hs.alloc _).alloc _ | exact ((hs.alloc _).alloc _).later _ | exact (((hs.alloc _).later _).alloc _).later _) hn h0).on ?_); intro xq) | (go_at_call 52; (first | refine (lowest_any (bendX xs p * (r.a * spanL xs p + 2 * l)) (2 * spanL xs p * r.b) (by omega) (by omega) (by omega) (by omega) _).onL ?_ | refine (lowest_any (bendX xs p * (r.a * spanL xs p + 2 * l)) (2 * spanL xs p * r.b) (by omega) (by omega) (by omega) (by omega) _).on ?_); intro xq) | ((with_reducible refine wp_region_later (by kernel_rfl) (by kernel_rfl) ?_); (repeat (go_big_quiet_step (fail))); refine wpQuiet_nil ?_; rintro _ ⟨xr, rfl⟩))
  all_goals (go_ret3; exact ⟨by rw [hfin.out]; try rfl, (by repeat (with_reducible first | exact Below.refl _ _ | refine bw_later ?_ _ | refine bw_alloc ?_ _ | refine bw_drew ?_ | refine bw_set ?_ (Nat.le_refl _) _ | refine bw_set ?_ ?_ _ | exact Nat.le_refl _ | exact later_size _ _ | refine Nat.le_trans ?_ (later_size _ _) | refine Nat.le_trans ?_ (size_alloc_le _ _) | refine Nat.le_trans ?_ (Nat.le_add_right _ _)))⟩)
theorem s_LoadedSag_any (g off n c : Nat) (xs : List Sup) (r : R2) (p : Int) (l : Int) (w : World) (hs : SSup w g off n xs) (hn : n ≤ 1048576) : Gv Try.prog 25 #[.slice (some ⟨g, off, none⟩) n c, r.v, .int .i64 p, .int .i64 l] w (.tuple #[.int .i64 ((loadF xs r p l)).1, .int .i64 (((loadF xs r p l)).2).1, .bool (((loadF xs r p l)).2).2]) := by
  unfold Gv
  cases h0 : onLine xs p
  · have hfin := Lib.hid (show loadF xs r p l = (0, 0, false) by simp [loadF, h0])
    unfold R2.v
    go_enter Try.func25, Try.ntmps25
    go_wp2_with (first | (go_at_call 45; (first | refine (l4Asked_any g off n c xs r p _ (by first | exact hs | exact hs.later _ | exact hs.alloc _ | exact (hs.alloc _).later _ | exact (hs.later _).alloc _ | exact ((hs.later _).alloc _).later _ | exact ((hs.alloc _).later _).alloc _ | exact (hs.alloc _).alloc _ | exact ((hs.alloc _).alloc _).later _ | exact (((hs.alloc _).later _).alloc _).later _) hn).onL ?_ | refine (l4Asked_any g off n c xs r p _ (by first | exact hs | exact hs.later _ | exact hs.alloc _ | exact (hs.alloc _).later _ | exact (hs.later _).alloc _ | exact ((hs.later _).alloc _).later _ | exact ((hs.alloc _).later _).alloc _ | exact (hs.alloc _).alloc _ | exact ((hs.alloc _).alloc _).later _ | exact (((hs.alloc _).later _).alloc _).later _) hn).on ?_); intro xq) | (go_at_call 46; (first | refine (in_any _ _ _ _).onL ?_ | refine (in_any _ _ _ _).on ?_); intro xq) | (go_at_call 47; (first | refine (l4Parts_any g off n c xs p _ (by first | exact hs | exact hs.later _ | exact hs.alloc _ | exact (hs.alloc _).later _ | exact (hs.later _).alloc _ | exact ((hs.later _).alloc _).later _ | exact ((hs.alloc _).later _).alloc _ | exact (hs.alloc _).alloc _ | exact ((hs.alloc _).alloc _).later _ | exact (((hs.alloc _).later _).alloc _).later _) hn h0).onL ?_ | refine (l4Parts_any g off n c xs p _ (by first | exact hs | exact hs.later _ | exact hs.alloc _ | exact (hs.alloc _).later _ | exact (hs.later _).alloc _ | exact ((hs.later _).alloc _).later _ | exact ((hs.alloc _).later _).alloc _ | exact (hs.alloc _).alloc _ | exact ((hs.alloc _).alloc _).later _ | exact (((hs.alloc _).later _).alloc _).later _) hn h0).on ?_); intro xq) | (go_at_call 51; (first | refine (reduce_any (r.a * partX xs p * partY xs p * (partX xs p + partY xs p) + 2 * l * partX xs p * partY xs p) (2 * r.b * (partX xs p + partY xs p)) (by omega) (by omega) (by omega) (by omega) _).onL ?_ | refine (reduce_any (r.a * partX xs p * partY xs p * (partX xs p + partY xs p) + 2 * l * partX xs p * partY xs p) (2 * r.b * (partX xs p + partY xs p)) (by omega) (by omega) (by omega) (by omega) _).on ?_); intro xq) | ((with_reducible refine wp_region_later (by kernel_rfl) (by kernel_rfl) ?_); (repeat (go_big_quiet_step (fail))); refine wpQuiet_nil ?_; rintro _ ⟨xr, rfl⟩))
    all_goals (go_ret3; exact ⟨by rw [hfin.out]; try rfl, (by repeat (with_reducible first | exact Below.refl _ _ | refine bw_later ?_ _ | refine bw_alloc ?_ _ | refine bw_drew ?_ | refine bw_set ?_ (Nat.le_refl _) _ | refine bw_set ?_ ?_ _ | exact Nat.le_refl _ | exact later_size _ _ | refine Nat.le_trans ?_ (later_size _ _) | refine Nat.le_trans ?_ (size_alloc_le _ _) | refine Nat.le_trans ?_ (Nat.le_add_right _ _)))⟩)
  cases h1 : isRope r
  · have hfin := Lib.hid (show loadF xs r p l = (0, 0, false) by simp [loadF, h0, h1])
    unfold R2.v
    go_enter Try.func25, Try.ntmps25
    go_wp2_with (first | (go_at_call 45; (first | refine (l4Asked_any g off n c xs r p _ (by first | exact hs | exact hs.later _ | exact hs.alloc _ | exact (hs.alloc _).later _ | exact (hs.later _).alloc _ | exact ((hs.later _).alloc _).later _ | exact ((hs.alloc _).later _).alloc _ | exact (hs.alloc _).alloc _ | exact ((hs.alloc _).alloc _).later _ | exact (((hs.alloc _).later _).alloc _).later _) hn).onL ?_ | refine (l4Asked_any g off n c xs r p _ (by first | exact hs | exact hs.later _ | exact hs.alloc _ | exact (hs.alloc _).later _ | exact (hs.later _).alloc _ | exact ((hs.later _).alloc _).later _ | exact ((hs.alloc _).later _).alloc _ | exact (hs.alloc _).alloc _ | exact ((hs.alloc _).alloc _).later _ | exact (((hs.alloc _).later _).alloc _).later _) hn).on ?_); intro xq) | (go_at_call 46; (first | refine (in_any _ _ _ _).onL ?_ | refine (in_any _ _ _ _).on ?_); intro xq) | (go_at_call 47; (first | refine (l4Parts_any g off n c xs p _ (by first | exact hs | exact hs.later _ | exact hs.alloc _ | exact (hs.alloc _).later _ | exact (hs.later _).alloc _ | exact ((hs.later _).alloc _).later _ | exact ((hs.alloc _).later _).alloc _ | exact (hs.alloc _).alloc _ | exact ((hs.alloc _).alloc _).later _ | exact (((hs.alloc _).later _).alloc _).later _) hn h0).onL ?_ | refine (l4Parts_any g off n c xs p _ (by first | exact hs | exact hs.later _ | exact hs.alloc _ | exact (hs.alloc _).later _ | exact (hs.later _).alloc _ | exact ((hs.later _).alloc _).later _ | exact ((hs.alloc _).later _).alloc _ | exact (hs.alloc _).alloc _ | exact ((hs.alloc _).alloc _).later _ | exact (((hs.alloc _).later _).alloc _).later _) hn h0).on ?_); intro xq) | (go_at_call 51; (first | refine (reduce_any (r.a * partX xs p * partY xs p * (partX xs p + partY xs p) + 2 * l * partX xs p * partY xs p) (2 * r.b * (partX xs p + partY xs p)) (by omega) (by omega) (by omega) (by omega) _).onL ?_ | refine (reduce_any (r.a * partX xs p * partY xs p * (partX xs p + partY xs p) + 2 * l * partX xs p * partY xs p) (2 * r.b * (partX xs p + partY xs p)) (by omega) (by omega) (by omega) (by omega) _).on ?_); intro xq) | ((with_reducible refine wp_region_later (by kernel_rfl) (by kernel_rfl) ?_); (repeat (go_big_quiet_step (fail))); refine wpQuiet_nil ?_; rintro _ ⟨xr, rfl⟩))
    all_goals (go_ret3; exact ⟨by rw [hfin.out]; try rfl, (by repeat (with_reducible first | exact Below.refl _ _ | refine bw_later ?_ _ | refine bw_alloc ?_ _ | refine bw_drew ?_ | refine bw_set ?_ (Nat.le_refl _) _ | refine bw_set ?_ ?_ _ | exact Nat.le_refl _ | exact later_size _ _ | refine Nat.le_trans ?_ (later_size _ _) | refine Nat.le_trans ?_ (size_alloc_le _ _) | refine Nat.le_trans ?_ (Nat.le_add_right _ _)))⟩)
  cases h2 : inB l 0 20000
  · have hfin := Lib.hid (show loadF xs r p l = (0, 0, false) by simp [loadF, h0, h1, h2])
    unfold R2.v
    go_enter Try.func25, Try.ntmps25
    go_wp2_with (first | (go_at_call 45; (first | refine (l4Asked_any g off n c xs r p _ (by first | exact hs | exact hs.later _ | exact hs.alloc _ | exact (hs.alloc _).later _ | exact (hs.later _).alloc _ | exact ((hs.later _).alloc _).later _ | exact ((hs.alloc _).later _).alloc _ | exact (hs.alloc _).alloc _ | exact ((hs.alloc _).alloc _).later _ | exact (((hs.alloc _).later _).alloc _).later _) hn).onL ?_ | refine (l4Asked_any g off n c xs r p _ (by first | exact hs | exact hs.later _ | exact hs.alloc _ | exact (hs.alloc _).later _ | exact (hs.later _).alloc _ | exact ((hs.later _).alloc _).later _ | exact ((hs.alloc _).later _).alloc _ | exact (hs.alloc _).alloc _ | exact ((hs.alloc _).alloc _).later _ | exact (((hs.alloc _).later _).alloc _).later _) hn).on ?_); intro xq) | (go_at_call 46; (first | refine (in_any _ _ _ _).onL ?_ | refine (in_any _ _ _ _).on ?_); intro xq) | (go_at_call 47; (first | refine (l4Parts_any g off n c xs p _ (by first | exact hs | exact hs.later _ | exact hs.alloc _ | exact (hs.alloc _).later _ | exact (hs.later _).alloc _ | exact ((hs.later _).alloc _).later _ | exact ((hs.alloc _).later _).alloc _ | exact (hs.alloc _).alloc _ | exact ((hs.alloc _).alloc _).later _ | exact (((hs.alloc _).later _).alloc _).later _) hn h0).onL ?_ | refine (l4Parts_any g off n c xs p _ (by first | exact hs | exact hs.later _ | exact hs.alloc _ | exact (hs.alloc _).later _ | exact (hs.later _).alloc _ | exact ((hs.later _).alloc _).later _ | exact ((hs.alloc _).later _).alloc _ | exact (hs.alloc _).alloc _ | exact ((hs.alloc _).alloc _).later _ | exact (((hs.alloc _).later _).alloc _).later _) hn h0).on ?_); intro xq) | (go_at_call 51; (first | refine (reduce_any (r.a * partX xs p * partY xs p * (partX xs p + partY xs p) + 2 * l * partX xs p * partY xs p) (2 * r.b * (partX xs p + partY xs p)) (by omega) (by omega) (by omega) (by omega) _).onL ?_ | refine (reduce_any (r.a * partX xs p * partY xs p * (partX xs p + partY xs p) + 2 * l * partX xs p * partY xs p) (2 * r.b * (partX xs p + partY xs p)) (by omega) (by omega) (by omega) (by omega) _).on ?_); intro xq) | ((with_reducible refine wp_region_later (by kernel_rfl) (by kernel_rfl) ?_); (repeat (go_big_quiet_step (fail))); refine wpQuiet_nil ?_; rintro _ ⟨xr, rfl⟩))
    all_goals (go_ret3; exact ⟨by rw [hfin.out]; try rfl, (by repeat (with_reducible first | exact Below.refl _ _ | refine bw_later ?_ _ | refine bw_alloc ?_ _ | refine bw_drew ?_ | refine bw_set ?_ (Nat.le_refl _) _ | refine bw_set ?_ ?_ _ | exact Nat.le_refl _ | exact later_size _ _ | refine Nat.le_trans ?_ (later_size _ _) | refine Nat.le_trans ?_ (size_alloc_le _ _) | refine Nat.le_trans ?_ (Nat.le_add_right _ _)))⟩)
  have hfin := Lib.hid (show loadF xs r p l = (redN (loadN xs r p l) (loadD xs r p), redD (loadN xs r p l) (loadD xs r p), true) by simp [loadF, h0, h1, h2])
  obtain ⟨⟨r1, r2⟩, ⟨r3, r4⟩⟩ := rope_bd h1
  obtain ⟨l1, l2⟩ := inB_t h2
  obtain ⟨⟨x1, x2⟩, ⟨y1, y2⟩⟩ := parts_bd h0
  obtain ⟨s1, s2⟩ := spanL_bd h0
  rw [span_parts] at s1 s2
  obtain ⟨m1, m2⟩ := mul_bd (a := r.a) (b := partX xs p) (A := 200) (B := 3000) (by omega) r2 x1 x2
  obtain ⟨m3, m4⟩ := mul_bd (a := r.a * partX xs p) (b := partY xs p) (A := 600000) (B := 3000) m1 (by omega) y1 y2
  obtain ⟨m5, m6⟩ := mul_bd (a := r.a * partX xs p * partY xs p) (b := partX xs p + partY xs p) (A := 1800000000) (B := 3000) m3 (by omega) (by omega) s2
  obtain ⟨v1, v2⟩ := mul_bd (a := 2 * l) (b := partX xs p) (A := 40000) (B := 3000) (by omega) (by omega) x1 x2
  obtain ⟨v3, v4⟩ := mul_bd (a := 2 * l * partX xs p) (b := partY xs p) (A := 120000000) (B := 3000) v1 (by omega) y1 y2
  obtain ⟨v5, v6⟩ := mul_bd (a := 2 * r.b) (b := partX xs p + partY xs p) (A := 200000) (B := 3000) (by omega) (by omega) (by omega) s2
  have v7 := one_le_mul (a := 2 * r.b) (b := partX xs p + partY xs p) (by omega) s1
  unfold R2.v
  go_enter Try.func25, Try.ntmps25
  go_wp2_with (first | (go_at_call 45; (first | refine (l4Asked_any g off n c xs r p _ (by first | exact hs | exact hs.later _ | exact hs.alloc _ | exact (hs.alloc _).later _ | exact (hs.later _).alloc _ | exact ((hs.later _).alloc _).later _ | exact ((hs.alloc _).later _).alloc _ | exact (hs.alloc _).alloc _ | exact ((hs.alloc _).alloc _).later _ | exact (((hs.alloc _).later _).alloc _).later _) hn).onL ?_ | refine (l4Asked_any g off n c xs r p _ (by first | exact hs | exact hs.later _ | exact hs.alloc _ | exact (hs.alloc _).later _ | exact (hs.later _).alloc _ | exact ((hs.later _).alloc _).later _ | exact ((hs.alloc _).later _).alloc _ | exact (hs.alloc _).alloc _ | exact ((hs.alloc _).alloc _).later _ | exact (((hs.alloc _).later _).alloc _).later _) hn).on ?_); intro xq) | (go_at_call 46; (first | refine (in_any _ _ _ _).onL ?_ | refine (in_any _ _ _ _).on ?_); intro xq) | (go_at_call 47; (first | refine (l4Parts_any g off n c xs p _ (by first | exact hs | exact hs.later _ | exact hs.alloc _ | exact (hs.alloc _).later _ | exact (hs.later _).alloc _ | exact ((hs.later _).alloc _).later _ | exact ((hs.alloc _).later _).alloc _ | exact (hs.alloc _).alloc _ | exact ((hs.alloc _).alloc _).later _ | exact (((hs.alloc _).later _).alloc _).later _) hn h0).onL ?_ | refine (l4Parts_any g off n c xs p _ (by first | exact hs | exact hs.later _ | exact hs.alloc _ | exact (hs.alloc _).later _ | exact (hs.later _).alloc _ | exact ((hs.later _).alloc _).later _ | exact ((hs.alloc _).later _).alloc _ | exact (hs.alloc _).alloc _ | exact ((hs.alloc _).alloc _).later _ | exact (((hs.alloc _).later _).alloc _).later _) hn h0).on ?_); intro xq) | (go_at_call 51; (first | refine (reduce_any (r.a * partX xs p * partY xs p * (partX xs p + partY xs p) + 2 * l * partX xs p * partY xs p) (2 * r.b * (partX xs p + partY xs p)) (by omega) (by omega) (by omega) (by omega) _).onL ?_ | refine (reduce_any (r.a * partX xs p * partY xs p * (partX xs p + partY xs p) + 2 * l * partX xs p * partY xs p) (2 * r.b * (partX xs p + partY xs p)) (by omega) (by omega) (by omega) (by omega) _).on ?_); intro xq) | ((with_reducible refine wp_region_later (by kernel_rfl) (by kernel_rfl) ?_); (repeat (go_big_quiet_step (fail))); refine wpQuiet_nil ?_; rintro _ ⟨xr, rfl⟩))
  all_goals (go_ret3; exact ⟨by rw [hfin.out, loadN_eq, loadD_eq]; try rfl, (by repeat (with_reducible first | exact Below.refl _ _ | refine bw_later ?_ _ | refine bw_alloc ?_ _ | refine bw_drew ?_ | refine bw_set ?_ (Nat.le_refl _) _ | refine bw_set ?_ ?_ _ | exact Nat.le_refl _ | exact later_size _ _ | refine Nat.le_trans ?_ (later_size _ _) | refine Nat.le_trans ?_ (size_alloc_le _ _) | refine Nat.le_trans ?_ (Nat.le_add_right _ _)))⟩)
theorem law_LoadedSag (A0 : Option Addr) (n0 c0 : Nat) (xs0 : List Sup) (r1 : R2) (a2 : Int) (a3 : Int) (w : World) (rd0 : ASup w A0 n0 xs0 ∧ n0 ≤ 9223372036854775807) (_ia2 : I64 a2) (_ia3 : I64 a3) : Gv Try.prog 6 #[.slice A0 n0 c0, r1.v, .int .i64 a2, .int .i64 a3] w (.bool true) := by
  obtain ⟨ha0, hm0⟩ := rd0
  replace ha0 := ha0.below2 (w' := (w.alloc (.cells #[.int .i64 r1.a, .int .i64 r1.b] 23))) (bw_alloc (Below.refl _ _) _)
  unfold Gv
  unfold R2.v
  by_cases k0 : 1048576 < n0
  · have z0 : szF n0 ((1048576 : Int)) = -1 := by unfold szF; rw [if_pos (by omega)]
    go_enter Try.func6, Try.ntmps6
    go_wp2_with fail
    refine Calls.mono (szSupport_any A0 n0 c0 ((1048576 : Int)) hm0 (by omega) (by omega) _) ?_
    rintro _ w1 ⟨rfl, b1⟩
    have hw := b1
    rw [z0]
    clear z0
    go_wp2_with fail
    go_ret
    exact ⟨rfl, bw_trans (bw_alloc (Below.refl _ _) _) hw⟩
  · have hn0 : n0 ≤ 1048576 := by omega
    have z0 : szF n0 ((1048576 : Int)) = (1048576 : Int) - (n0 : Int) := by unfold szF; rw [if_neg (by omega)]
    go_enter Try.func6, Try.ntmps6
    go_wp2_with fail
    refine Calls.mono (szSupport_any A0 n0 c0 ((1048576 : Int)) hm0 (by omega) (by omega) _) ?_
    rintro _ w1 ⟨rfl, b1⟩
    replace ha0 := ha0.below2 b1
    have hw := b1
    rw [z0]
    clear z0
    go_wp2_with fail
    (refine wp_region_C (Below (w1).heap.size (w1)) (by kernel_rfl) ?_)
    generalize hgd2 : w1.drew = w2
    have b2 : Below w1.heap.size w1 w2 := by rw [← hgd2]; exact (Below.refl _ _).drew
    clear hgd2
    have f1_0 : w1.cell? ⟨w.heap.size, 0, none⟩ = some (.int .i64 r1.a) := (hw.cell (p := ⟨_, _, none⟩) (by simp)).trans (by simp [go_sem])
    have f1_1 : w1.cell? ⟨w.heap.size, 1, none⟩ = some (.int .i64 r1.b) := (hw.cell (p := ⟨_, _, none⟩) (by simp)).trans (by simp [go_sem])
    have g1_ : w.heap.size < w1.heap.size := by have := hw.size; simp at this; omega
    have hreg := b2
    refine step_read (i := 0) (by kernel_rfl) (by kernel_rfl) rfl hreg rfl (fun K hK => ?_)
    apply Exists.intro
    refine ⟨fun x => ?_, ?_⟩
    · go_simp; (try rfl)
    go_simp; refine hK _ ?_; clear hK K
    refine step_read (i := 2) (by kernel_rfl) (by kernel_rfl) rfl hreg rfl (fun K hK => ?_)
    apply Exists.intro
    refine ⟨fun x => ?_, ?_⟩
    · go_simp; (try rfl)
    go_simp; refine hK _ ?_; clear hK K
    refine step_read (i := 4) (by kernel_rfl) (by kernel_rfl) rfl hreg rfl (fun K hK => ?_)
    apply Exists.intro
    refine ⟨fun x => ?_, ?_⟩
    · go_simp; (try rfl)
    go_simp; refine hK _ ?_; clear hK K
    refine step_read (i := 5) (by kernel_rfl) (by kernel_rfl) rfl hreg rfl (fun K hK => ?_)
    apply Exists.intro
    refine ⟨fun x => ?_, ?_⟩
    · go_simp; (try rfl)
    go_simp; refine hK _ ?_; clear hK K
    clear f1_0 f1_1 g1_
    replace ha0 := ha0.below2 b2
    replace hw := bw_trans hw b2
    refine step_one (i := 1) (by kernel_rfl) rfl hreg (fun K hK => ?_)
    go_wp2_with fail
    refine Calls.mono (toSupportS_any A0 n0 c0 xs0 _ ha0 hn0) ?_
    rintro _ w3 ⟨g3, rfl, q3, hB3, b3⟩
    replace ha0 := ha0.below2 b3
    replace hw := bw_trans hw b3
    replace hreg := bw_trans hreg b3
    (try go_wp2)
    (try refine hK _ _ ?_)
    (try clear hK K)
    refine step_one (i := 3) (by kernel_rfl) rfl hreg (fun K hK => ?_)
    go_wp2_with fail
    refine Calls.mono (toRope_any r1 _) ?_
    rintro _ w4 ⟨rfl, b4⟩
    replace ha0 := ha0.below2 b4
    replace hB3 := hB3.below2 b4
    replace hw := bw_trans hw b4
    (try unfold R2.v)
    replace hreg := bw_trans hreg b4
    (try go_wp2)
    (try refine hK _ _ ?_)
    (try clear hK K)
    refine step_one (i := 6) (by kernel_rfl) rfl hreg (fun K hK => ?_)
    go_wp2_with fail
    refine Calls.mono (s_LoadedSag_any g3 0 n0 n0 xs0 r1 a2 a3 _ hB3.reads hn0) ?_
    rintro _ w5 ⟨rfl, b5⟩
    replace ha0 := ha0.below2 b5
    replace hB3 := hB3.below2 b5
    replace hw := bw_trans hw b5
    replace hreg := bw_trans hreg b5
    (try go_wp2)
    (try refine hK _ _ ?_)
    (try clear hK K)
    refine step_read (i := 7) (by kernel_rfl) (by kernel_rfl) rfl hreg rfl (fun K hK => ?_)
    apply Exists.intro
    refine ⟨fun x => ?_, ?_⟩
    · go_simp; (try rfl)
    go_simp; refine hK _ ?_; clear hK K
    refine step_read (i := 8) (by kernel_rfl) (by kernel_rfl) rfl hreg rfl (fun K hK => ?_)
    apply Exists.intro
    refine ⟨fun x => ?_, ?_⟩
    · go_simp; (try rfl)
    go_simp; refine hK _ ?_; clear hK K
    refine step_read (i := 9) (by kernel_rfl) (by kernel_rfl) rfl hreg rfl (fun K hK => ?_)
    apply Exists.intro
    refine ⟨fun x => ?_, ?_⟩
    · go_simp; (try rfl)
    go_simp; refine hK _ ?_; clear hK K
    refine step_read (i := 10) (by kernel_rfl) (by kernel_rfl) rfl hreg rfl (fun K hK => ?_)
    apply Exists.intro
    refine ⟨fun x => ?_, ?_⟩
    · go_simp; (try rfl)
    go_simp; refine hK _ ?_; clear hK K
    refine step_read (i := 11) (by kernel_rfl) (by kernel_rfl) rfl hreg rfl (fun K hK => ?_)
    apply Exists.intro
    refine ⟨fun x => ?_, ?_⟩
    · go_simp; (try rfl)
    go_simp; refine hK _ ?_; clear hK K
    refine step_read (i := 12) (by kernel_rfl) (by kernel_rfl) rfl hreg rfl (fun K hK => ?_)
    apply Exists.intro
    refine ⟨fun x => ?_, ?_⟩
    · go_simp; (try rfl)
    go_simp; refine hK _ ?_; clear hK K
    refine step_read (i := 13) (by kernel_rfl) (by kernel_rfl) rfl hreg rfl (fun K hK => ?_)
    apply Exists.intro
    refine ⟨fun x => ?_, ?_⟩
    · go_simp; (try rfl)
    go_simp; refine hK _ ?_; clear hK K
    refine step_end (by kernel_rfl) hreg ?_
    clear hreg
    go_wp2_with fail
    refine Calls.mono (toSupportS_any A0 n0 c0 xs0 _ ha0 hn0) ?_
    rintro _ w6 ⟨g6, rfl, q6, hB6, b6⟩
    replace ha0 := ha0.below2 b6
    replace hB3 := hB3.below2 b6
    replace hw := bw_trans hw b6
    have e0 : w6.cell? ⟨w.heap.size, 0, none⟩ = some (.int .i64 r1.a) := (hw.cell (p := ⟨_, _, none⟩) (by simp)).trans (by simp [go_sem])
    have e1 : w6.cell? ⟨w.heap.size, 1, none⟩ = some (.int .i64 r1.b) := (hw.cell (p := ⟨_, _, none⟩) (by simp)).trans (by simp [go_sem])
    go_wp2_with fail
    refine Calls.mono (toRope_any r1 _) ?_
    rintro _ w7 ⟨rfl, b7⟩
    replace ha0 := ha0.below2 b7
    replace hB3 := hB3.below2 b7
    replace hB6 := hB6.below2 b7
    replace hw := bw_trans hw b7
    unfold R2.v
    clear e0 e1
    go_wp2_with fail
    refine Calls.mono (i_LoadedSag_any g6 0 n0 n0 xs0 r1 a2 a3 _ hB6.reads hn0) ?_
    rintro _ w8 ⟨rfl, b8⟩
    replace ha0 := ha0.below2 b8
    replace hB3 := hB3.below2 b8
    replace hB6 := hB6.below2 b8
    replace hw := bw_trans hw b8
    go_wp2_with fail
    refine Calls.mono (toSupportS_any A0 n0 c0 xs0 _ ha0 hn0) ?_
    rintro _ w9 ⟨g9, rfl, q9, hB9, b9⟩
    replace ha0 := ha0.below2 b9
    replace hB3 := hB3.below2 b9
    replace hB6 := hB6.below2 b9
    replace hw := bw_trans hw b9
    go_wp2_with fail
    refine Calls.mono (eqSupportS_any _ _ n0 n0 n0 n0 xs0 xs0 _ (ASup.of hB6.reads) (ASup.of hB9.reads) hn0 hn0) ?_
    rintro _ w10 ⟨rfl, b10⟩
    replace ha0 := ha0.below2 b10
    replace hB3 := hB3.below2 b10
    replace hB6 := hB6.below2 b10
    replace hB9 := hB9.below2 b10
    replace hw := bw_trans hw b10
    go_wp2_with fail
    go_ret
    exact ⟨rfl, bw_trans (bw_alloc (Below.refl _ _) _) hw⟩
end Go.Proofs.Ytkdekpnnnpembaa
