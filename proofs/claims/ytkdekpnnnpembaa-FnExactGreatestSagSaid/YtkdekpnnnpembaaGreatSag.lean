/- The place with the greatest sag. -/
import Derived.Test.YtkdekpnnnpembaaSag
import Derived.OwnWalk
namespace Go.Proofs.Ytkdekpnnnpembaa
open Go.RowKit
theorem results_tmp4 {fn : Func} {t u v z : Tmp} (h : fn.results = #[.tmp t, .tmp u, .tmp v, .tmp z]) (tmps : Array Value) (P : Program) (w : World) :
    (results fn tmps).run P w = .ok (.tuple #[tmps.getD t undef, tmps.getD u undef, tmps.getD v undef, tmps.getD z undef]) w := by
  simp [results, h]
/-- The place with the greatest product among the first k, and that product. -/
def greatTo (xs : List Sup) : Nat → Nat × Int
  | 0 => (0, -1)
  | k + 1 => if (greatTo xs k).2 < bendX xs (k : Int) then (k, bendX xs (k : Int)) else greatTo xs k
theorem great_yes {xs : List Sup} {k : Nat} (h : (greatTo xs k).2 < bendX xs (k : Int)) : greatTo xs (k + 1) = (k, bendX xs (k : Int)) := by simp [greatTo, h]
theorem great_no {xs : List Sup} {k : Nat} (h : ¬ (greatTo xs k).2 < bendX xs (k : Int)) : greatTo xs (k + 1) = greatTo xs k := by simp [greatTo, h]
theorem great_bd {xs : List Sup} (hv : okLine xs = true) (k : Nat) (hk : (k : Int) ≤ lastAt xs + 1) : -1 ≤ (greatTo xs k).2 ∧ (greatTo xs k).2 ≤ 9000000 ∧ (0 < k → 0 ≤ (greatTo xs k).2) ∧ (greatTo xs k).1 ≤ 3000 := by
  induction k with
  | zero => exact ⟨by simp [greatTo], by simp [greatTo], fun h => absurd h (by omega), by simp [greatTo]⟩
  | succ k ih =>
    obtain ⟨i1, i2, i3, i4⟩ := ih (by omega)
    have ho : onLine xs (k : Int) = true := by simp [onLine, hv, inB]; omega
    obtain ⟨z, -, -, l0, l1⟩ := lastAt_is (line_ok hv)
    have hb := bendX_bd ho
    by_cases h : (greatTo xs k).2 < bendX xs (k : Int)
    · rw [great_yes h]
      exact ⟨by show -1 ≤ bendX xs (k : Int); omega, hb.2, fun _ => hb.1, by show k ≤ 3000; omega⟩
    · rw [great_no h]
      exact ⟨i1, i2, fun _ => by omega, i4⟩
/-- The program's number beside a product: its own first guess is kept as it is. -/
def mulM (a m : Int) : Int := if m < 0 then m else a * m
theorem mulM_lt {a m b : Int} (ha : 1 ≤ a) (hm : -1 ≤ m) (hb : 0 ≤ b) : mulM a m < a * b ↔ m < b := by
  unfold mulM
  split
  · have := Int.mul_nonneg (show 0 ≤ a by omega) hb
    omega
  · exact Int.mul_lt_mul_left (by omega)
theorem mulM_bd {a m : Int} (a0 : 1 ≤ a) (a1 : a ≤ 200) (h1 : -1 ≤ m) (h2 : m ≤ 9000000) : -1 ≤ mulM a m ∧ mulM a m ≤ 1800000000 := by
  unfold mulM
  split
  · omega
  · have := mul_bd (a := a) (b := m) (A := 200) (B := 9000000) (by omega) a1 (by omega) h2
    omega
def endK (xs : List Sup) : Nat := (lastAt xs).toNat + 1
def greatSagF (xs : List Sup) (r : R2) : Int × Int × Int × Bool :=
  if okLine xs && isRope r then (((greatTo xs (endK xs)).1 : Int), redN (r.a * (greatTo xs (endK xs)).2) (2 * r.b), redD (r.a * (greatTo xs (endK xs)).2) (2 * r.b), true) else (0, 0, 0, false)
set_option maxHeartbeats 1000000 in
theorem i_GreatestSag_any (g off n c : Nat) (xs : List Sup) (r : R2) (w : World) (hs : SSup w g off n xs) (hn : n ≤ 1048576) : Gv Try.prog 30 #[.slice (some ⟨g, off, none⟩) n c, r.v] w (.tuple #[.int .i64 ((greatSagF xs r)).1, .int .i64 (((greatSagF xs r)).2).1, .int .i64 ((((greatSagF xs r)).2).2).1, .bool ((((greatSagF xs r)).2).2).2]) := by
  unfold Gv
  cases h0 : okLine xs
  · have hfin := Lib.hid (show greatSagF xs r = (0, 0, 0, false) by simp [greatSagF, h0])
    unfold R2.v
    go_enter Try.func30, Try.ntmps30
    go_wp2_with (first | (go_at_call 42; (first | refine (impl_IsLine_any g off _ c xs _ (by first | exact hs | exact hs.later _ | exact hs.alloc _ | exact (hs.alloc _).later _ | exact (hs.later _).alloc _ | exact ((hs.later _).alloc _).later _ | exact ((hs.alloc _).later _).alloc _ | exact (hs.alloc _).alloc _ | exact ((hs.alloc _).alloc _).later _ | exact (((hs.alloc _).later _).alloc _).later _) hn).onL ?_ | refine (impl_IsLine_any g off _ c xs _ (by first | exact hs | exact hs.later _ | exact hs.alloc _ | exact (hs.alloc _).later _ | exact (hs.later _).alloc _ | exact ((hs.later _).alloc _).later _ | exact ((hs.alloc _).later _).alloc _ | exact (hs.alloc _).alloc _ | exact ((hs.alloc _).alloc _).later _ | exact (((hs.alloc _).later _).alloc _).later _) hn).on ?_); intro xq) | (go_at_call 14; (first | refine (impl_IsRope_any r _).onL ?_ | refine (impl_IsRope_any r _).on ?_); intro xq))
    ((try simp only [Exit.inBlock, Exit.then]); refine bodyPost_ret (results_tmp4 rfl _ _ _) rfl ?_)
    exact ⟨by rw [hfin.out]; rfl, (by repeat (with_reducible first | exact Below.refl _ _ | refine bw_later ?_ _ | refine bw_alloc ?_ _ | refine bw_drew ?_ | refine bw_set ?_ (Nat.le_refl _) _ | refine bw_set ?_ ?_ _ | exact Nat.le_refl _ | exact later_size _ _ | refine Nat.le_trans ?_ (later_size _ _) | refine Nat.le_trans ?_ (size_alloc_le _ _) | refine Nat.le_trans ?_ (Nat.le_add_right _ _)))⟩
  cases h1 : isRope r
  · have hfin := Lib.hid (show greatSagF xs r = (0, 0, 0, false) by simp [greatSagF, h0, h1])
    unfold R2.v
    go_enter Try.func30, Try.ntmps30
    go_wp2_with (first | (go_at_call 42; (first | refine (impl_IsLine_any g off _ c xs _ (by first | exact hs | exact hs.later _ | exact hs.alloc _ | exact (hs.alloc _).later _ | exact (hs.later _).alloc _ | exact ((hs.later _).alloc _).later _ | exact ((hs.alloc _).later _).alloc _ | exact (hs.alloc _).alloc _ | exact ((hs.alloc _).alloc _).later _ | exact (((hs.alloc _).later _).alloc _).later _) hn).onL ?_ | refine (impl_IsLine_any g off _ c xs _ (by first | exact hs | exact hs.later _ | exact hs.alloc _ | exact (hs.alloc _).later _ | exact (hs.later _).alloc _ | exact ((hs.later _).alloc _).later _ | exact ((hs.alloc _).later _).alloc _ | exact (hs.alloc _).alloc _ | exact ((hs.alloc _).alloc _).later _ | exact (((hs.alloc _).later _).alloc _).later _) hn).on ?_); intro xq) | (go_at_call 14; (first | refine (impl_IsRope_any r _).onL ?_ | refine (impl_IsRope_any r _).on ?_); intro xq))
    ((try simp only [Exit.inBlock, Exit.then]); refine bodyPost_ret (results_tmp4 rfl _ _ _) rfl ?_)
    exact ⟨by rw [hfin.out]; rfl, (by repeat (with_reducible first | exact Below.refl _ _ | refine bw_later ?_ _ | refine bw_alloc ?_ _ | refine bw_drew ?_ | refine bw_set ?_ (Nat.le_refl _) _ | refine bw_set ?_ ?_ _ | exact Nat.le_refl _ | exact later_size _ _ | refine Nat.le_trans ?_ (later_size _ _) | refine Nat.le_trans ?_ (size_alloc_le _ _) | refine Nat.le_trans ?_ (Nat.le_add_right _ _)))⟩
  have hfin := Lib.hid (show greatSagF xs r = (((greatTo xs (endK xs)).1 : Int), redN (r.a * (greatTo xs (endK xs)).2) (2 * r.b), redD (r.a * (greatTo xs (endK xs)).2) (2 * r.b), true) by simp [greatSagF, h0, h1])
  have hg := hs.1
  have hL := line_ok h0
  have h28 := hL.len
  have hle := hs.2.1
  obtain ⟨z, hz, ez, e0, e1⟩ := lastAt_is hL
  obtain ⟨m, rfl⟩ : ∃ m, n = m + 1 := ⟨n - 1, by omega⟩
  rw [hle, Nat.add_sub_cancel] at hz
  obtain ⟨l0, -, -⟩ := hs.2.2 m z hz
  obtain ⟨L, hLk⟩ : ∃ L : Nat, lastAt xs = (L : Int) := ⟨(lastAt xs).toNat, by omega⟩
  have hEnd := Lib.hid (show endK xs = L + 1 by unfold endK; omega)
  have hzL : z.at_ = (L : Int) := by omega
  rw [hzL] at l0
  have hv := Lib.hid h0
  have hr := Lib.hid h1
  have Hlast := Lib.hid hLk
  have hL3 : L ≤ 3000 := by omega
  obtain ⟨⟨r1, r2⟩, ⟨r3, r4⟩⟩ := rope_bd h1
  clear hz ez hle hL hzL hLk e0 e1
  have hff : ∀ (u v : Int) (W : World), (Instr.field 74 (.agg #[.int .i64 u, .int .i64 v]) 0).run Try.prog W = .ok (.int .i64 u) W := fun _ _ _ => by rfl
  unfold R2.v
  go_enter Try.func30, Try.ntmps30
  go_wp2_with (first | (go_at_call 42; (first | refine (impl_IsLine_any g off _ c xs _ (by first | exact hs | exact hs.later _ | exact hs.alloc _ | exact (hs.alloc _).later _ | exact (hs.later _).alloc _ | exact ((hs.later _).alloc _).later _ | exact ((hs.alloc _).later _).alloc _ | exact (hs.alloc _).alloc _ | exact ((hs.alloc _).alloc _).later _ | exact (((hs.alloc _).later _).alloc _).later _) hn).onL ?_ | refine (impl_IsLine_any g off _ c xs _ (by first | exact hs | exact hs.later _ | exact hs.alloc _ | exact (hs.alloc _).later _ | exact (hs.later _).alloc _ | exact ((hs.later _).alloc _).later _ | exact ((hs.alloc _).later _).alloc _ | exact (hs.alloc _).alloc _ | exact ((hs.alloc _).alloc _).later _ | exact (((hs.alloc _).later _).alloc _).later _) hn).on ?_); intro xq) | (go_at_call 14; (first | refine (impl_IsRope_any r _).onL ?_ | refine (impl_IsRope_any r _).on ?_); intro xq))
  clear h0 h1
  go_loopw [8, 9, 10] (fun b q i wr => ∃ k : Nat, k ≤ L + 1 ∧ i = .int .i64 (k : Int) ∧ b = .int .i64 ((greatTo xs k).1 : Nat) ∧ q = .int .i64 (mulM r.a (greatTo xs k).2) ∧ Below (w.alloc (.cells #[.int .i64 r.a, .int .i64 r.b] 25)).heap.size (w.alloc (.cells #[.int .i64 r.a, .int .i64 r.b] 25)) wr) (fun _ _ i _ => L + 1 - (intOf i).toNat)
  case atStart => exact ⟨0, by omega, rfl, rfl, rfl, (by repeat (with_reducible first | exact Below.refl _ _ | refine bw_later ?_ _ | refine bw_alloc ?_ _ | refine bw_drew ?_ | refine bw_set ?_ (Nat.le_refl _) _ | refine bw_set ?_ ?_ _ | exact Nat.le_refl _ | exact later_size _ _ | refine Nat.le_trans ?_ (later_size _ _) | refine Nat.le_trans ?_ (size_alloc_le _ _) | refine Nat.le_trans ?_ (Nat.le_add_right _ _)))⟩
  case round =>
    obtain ⟨k, hk, rfl, rfl, rfl, hb⟩ := hrel
    obtain ⟨y, rfl⟩ := exists_later hb
    clear hb
    have hgy : g < (later (w.alloc (.cells #[.int .i64 r.a, .int .i64 r.b] 25)) y).heap.size := lt_later_1_0 w _ y g hg
    obtain ⟨g1, g2, g3, g4⟩ := great_bd hv.out k (by rw [Hlast.out]; omega)
    by_cases hkL : k ≤ L
    · have hkI : (k : Int) ≤ (L : Int) := by omega
      have ho : onLine xs (k : Int) = true := by simp [onLine, hv.out, inB, Hlast.out]; omega
      obtain ⟨b1, b2⟩ := bendX_bd ho
      obtain ⟨⟨x1, x2⟩, ⟨y1, y2⟩⟩ := parts_bd ho
      obtain ⟨v1, v2⟩ := mul_bd (a := partX xs (k : Int)) (b := partY xs (k : Int)) (A := 3000) (B := 3000) x1 x2 y1 y2
      obtain ⟨v3, v4⟩ := mulM_bd r1 r2 g1 g2
      obtain ⟨v5, v6⟩ := mul_bd (a := r.a) (b := bendX xs (k : Int)) (A := 200) (B := 9000000) (by omega) r2 b1 b2
      by_cases hgt : (greatTo xs k).2 < bendX xs (k : Int)
      · have Hg := Lib.hid hgt
        have hcmp : mulM r.a (greatTo xs k).2 < r.a * bendX xs (k : Int) := (mulM_lt r1 g1 b1).2 hgt
        have hd : decide (mulM r.a (greatTo xs k).2 < r.a * bendX xs (k : Int)) = true := by simpa using hcmp
        go_wp2_with (first | (go_at_call 53; (first | refine (sagAt_any g off _ c xs r (k : Int) _ (by first | exact hs | exact hs.later _ | exact hs.alloc _ | exact (hs.alloc _).later _ | exact (hs.later _).alloc _ | exact ((hs.later _).alloc _).later _ | exact ((hs.alloc _).later _).alloc _ | exact (hs.alloc _).alloc _ | exact ((hs.alloc _).alloc _).later _ | exact (((hs.alloc _).later _).alloc _).later _) hn ho hr.out).onL ?_ | refine (sagAt_any g off _ c xs r (k : Int) _ (by first | exact hs | exact hs.later _ | exact hs.alloc _ | exact (hs.alloc _).later _ | exact (hs.later _).alloc _ | exact ((hs.later _).alloc _).later _ | exact ((hs.alloc _).later _).alloc _ | exact (hs.alloc _).alloc _ | exact ((hs.alloc _).alloc _).later _ | exact (((hs.alloc _).later _).alloc _).later _) hn ho hr.out).on ?_); intro xq) | ((with_reducible refine wp_region_later (by kernel_rfl) (by kernel_rfl) ?_); (repeat (go_big_quiet_step (fail))); refine wpQuiet_nil ?_; rintro _ ⟨xr, rfl⟩))
        go_roundw
        case rel => exact ⟨k + 1, by omega, by go_num, by rw [great_yes (by have := Hg.out; omega)], by rw [great_yes (by have := Hg.out; omega)]; show _ = Value.int .i64 (mulM r.a (bendX xs (k : Int))); rw [mulM, if_neg (by omega)], (by repeat (with_reducible first | exact Below.refl _ _ | refine bw_later ?_ _ | refine bw_alloc ?_ _ | refine bw_drew ?_ | refine bw_set ?_ (Nat.le_refl _) _ | refine bw_set ?_ ?_ _ | exact Nat.le_refl _ | exact later_size _ _ | refine Nat.le_trans ?_ (later_size _ _) | refine Nat.le_trans ?_ (size_alloc_le _ _) | refine Nat.le_trans ?_ (Nat.le_add_right _ _)))⟩
        case measure => simp [intOf]; omega
      · have Hg := Lib.hid hgt
        have hcmp : ¬ mulM r.a (greatTo xs k).2 < r.a * bendX xs (k : Int) := fun h => hgt ((mulM_lt r1 g1 b1).1 h)
        have hd : decide (mulM r.a (greatTo xs k).2 < r.a * bendX xs (k : Int)) = false := by simpa using hcmp
        go_wp2_with (first | (go_at_call 53; (first | refine (sagAt_any g off _ c xs r (k : Int) _ (by first | exact hs | exact hs.later _ | exact hs.alloc _ | exact (hs.alloc _).later _ | exact (hs.later _).alloc _ | exact ((hs.later _).alloc _).later _ | exact ((hs.alloc _).later _).alloc _ | exact (hs.alloc _).alloc _ | exact ((hs.alloc _).alloc _).later _ | exact (((hs.alloc _).later _).alloc _).later _) hn ho hr.out).onL ?_ | refine (sagAt_any g off _ c xs r (k : Int) _ (by first | exact hs | exact hs.later _ | exact hs.alloc _ | exact (hs.alloc _).later _ | exact (hs.later _).alloc _ | exact ((hs.later _).alloc _).later _ | exact ((hs.alloc _).later _).alloc _ | exact (hs.alloc _).alloc _ | exact ((hs.alloc _).alloc _).later _ | exact (((hs.alloc _).later _).alloc _).later _) hn ho hr.out).on ?_); intro xq) | ((with_reducible refine wp_region_later (by kernel_rfl) (by kernel_rfl) ?_); (repeat (go_big_quiet_step (fail))); refine wpQuiet_nil ?_; rintro _ ⟨xr, rfl⟩))
        go_roundw
        case rel => exact ⟨k + 1, by omega, by go_num, by rw [great_no (by have := Hg.out; omega)], by rw [great_no (by have := Hg.out; omega)], (by repeat (with_reducible first | exact Below.refl _ _ | refine bw_later ?_ _ | refine bw_alloc ?_ _ | refine bw_drew ?_ | refine bw_set ?_ (Nat.le_refl _) _ | refine bw_set ?_ ?_ _ | exact Nat.le_refl _ | exact later_size _ _ | refine Nat.le_trans ?_ (later_size _ _) | refine Nat.le_trans ?_ (size_alloc_le _ _) | refine Nat.le_trans ?_ (Nat.le_add_right _ _)))⟩
        case measure => simp [intOf]; omega
    · obtain rfl : k = L + 1 := by omega
      have g3' := g3 (by omega)
      have hMM := Lib.hid (show mulM r.a (greatTo xs (L + 1)).2 = r.a * (greatTo xs (L + 1)).2 by rw [mulM, if_neg (by omega)])
      obtain ⟨v5, v6⟩ := mul_bd (a := r.a) (b := (greatTo xs (L + 1)).2) (A := 200) (B := 9000000) (by omega) r2 g3' g2
      rw [hMM.out]
      go_wp2_with (first | (go_at_call 52; (first | refine (lowest_any (r.a * (greatTo xs (L + 1)).2) (2 * r.b) (by omega) (by omega) (by omega) (by omega) _).onL ?_ | refine (lowest_any (r.a * (greatTo xs (L + 1)).2) (2 * r.b) (by omega) (by omega) (by omega) (by omega) _).on ?_); intro xq) | ((with_reducible refine wp_region_later (by kernel_rfl) (by kernel_rfl) ?_); (repeat (go_big_quiet_step (fail))); refine wpQuiet_nil ?_; rintro _ ⟨xr, rfl⟩))
      ((try simp only [Exit.inBlock, Exit.then]); refine bodyPost_ret (results_tmp4 rfl _ _ _) rfl ?_)
      exact ⟨by rw [hfin.out, hEnd.out]; rfl, (by repeat (with_reducible first | exact Below.refl _ _ | refine bw_later ?_ _ | refine bw_alloc ?_ _ | refine bw_drew ?_ | refine bw_set ?_ (Nat.le_refl _) _ | refine bw_set ?_ ?_ _ | exact Nat.le_refl _ | exact later_size _ _ | refine Nat.le_trans ?_ (later_size _ _) | refine Nat.le_trans ?_ (size_alloc_le _ _) | refine Nat.le_trans ?_ (Nat.le_add_right _ _)))⟩
theorem asked_zero (g off n c : Nat) (xs : List Sup) (r : R2) (w : World) (hs : SSup w g off n xs) (hn : n ≤ 1048576) : Gv Try.prog 45 #[.slice (some ⟨g, off, none⟩) n c, r.v, .int .i64 0] w (.bool (okLine xs && isRope r)) := by
  rw [← onLine_zero]
  exact l4Asked_any g off n c xs r 0 w hs hn
set_option maxHeartbeats 1000000 in
theorem s_GreatestSag_any (g off n c : Nat) (xs : List Sup) (r : R2) (w : World) (hs : SSup w g off n xs) (hn : n ≤ 1048576) : Gv Try.prog 29 #[.slice (some ⟨g, off, none⟩) n c, r.v] w (.tuple #[.int .i64 ((greatSagF xs r)).1, .int .i64 (((greatSagF xs r)).2).1, .int .i64 ((((greatSagF xs r)).2).2).1, .bool ((((greatSagF xs r)).2).2).2]) := by
  unfold Gv
  cases h0 : okLine xs
  · have hfin := Lib.hid (show greatSagF xs r = (0, 0, 0, false) by simp [greatSagF, h0])
    unfold R2.v
    go_enter Try.func29, Try.ntmps29
    go_wp2_with (first | (go_at_call 45; (first | refine (asked_zero g off _ c xs r _ (by first | exact hs | exact hs.later _ | exact hs.alloc _ | exact (hs.alloc _).later _ | exact (hs.later _).alloc _ | exact ((hs.later _).alloc _).later _ | exact ((hs.alloc _).later _).alloc _ | exact (hs.alloc _).alloc _ | exact ((hs.alloc _).alloc _).later _ | exact (((hs.alloc _).later _).alloc _).later _) hn).onL ?_ | refine (asked_zero g off _ c xs r _ (by first | exact hs | exact hs.later _ | exact hs.alloc _ | exact (hs.alloc _).later _ | exact (hs.later _).alloc _ | exact ((hs.later _).alloc _).later _ | exact ((hs.alloc _).later _).alloc _ | exact (hs.alloc _).alloc _ | exact ((hs.alloc _).alloc _).later _ | exact (((hs.alloc _).later _).alloc _).later _) hn).on ?_); intro xq))
    ((try simp only [Exit.inBlock, Exit.then]); refine bodyPost_ret (results_tmp4 rfl _ _ _) rfl ?_)
    exact ⟨by rw [hfin.out]; rfl, (by repeat (with_reducible first | exact Below.refl _ _ | refine bw_later ?_ _ | refine bw_alloc ?_ _ | refine bw_drew ?_ | refine bw_set ?_ (Nat.le_refl _) _ | refine bw_set ?_ ?_ _ | exact Nat.le_refl _ | exact later_size _ _ | refine Nat.le_trans ?_ (later_size _ _) | refine Nat.le_trans ?_ (size_alloc_le _ _) | refine Nat.le_trans ?_ (Nat.le_add_right _ _)))⟩
  cases h1 : isRope r
  · have hfin := Lib.hid (show greatSagF xs r = (0, 0, 0, false) by simp [greatSagF, h0, h1])
    unfold R2.v
    go_enter Try.func29, Try.ntmps29
    go_wp2_with (first | (go_at_call 45; (first | refine (asked_zero g off _ c xs r _ (by first | exact hs | exact hs.later _ | exact hs.alloc _ | exact (hs.alloc _).later _ | exact (hs.later _).alloc _ | exact ((hs.later _).alloc _).later _ | exact ((hs.alloc _).later _).alloc _ | exact (hs.alloc _).alloc _ | exact ((hs.alloc _).alloc _).later _ | exact (((hs.alloc _).later _).alloc _).later _) hn).onL ?_ | refine (asked_zero g off _ c xs r _ (by first | exact hs | exact hs.later _ | exact hs.alloc _ | exact (hs.alloc _).later _ | exact (hs.later _).alloc _ | exact ((hs.later _).alloc _).later _ | exact ((hs.alloc _).later _).alloc _ | exact (hs.alloc _).alloc _ | exact ((hs.alloc _).alloc _).later _ | exact (((hs.alloc _).later _).alloc _).later _) hn).on ?_); intro xq))
    ((try simp only [Exit.inBlock, Exit.then]); refine bodyPost_ret (results_tmp4 rfl _ _ _) rfl ?_)
    exact ⟨by rw [hfin.out]; rfl, (by repeat (with_reducible first | exact Below.refl _ _ | refine bw_later ?_ _ | refine bw_alloc ?_ _ | refine bw_drew ?_ | refine bw_set ?_ (Nat.le_refl _) _ | refine bw_set ?_ ?_ _ | exact Nat.le_refl _ | exact later_size _ _ | refine Nat.le_trans ?_ (later_size _ _) | refine Nat.le_trans ?_ (size_alloc_le _ _) | refine Nat.le_trans ?_ (Nat.le_add_right _ _)))⟩
  have hfin := Lib.hid (show greatSagF xs r = (((greatTo xs (endK xs)).1 : Int), redN (r.a * (greatTo xs (endK xs)).2) (2 * r.b), redD (r.a * (greatTo xs (endK xs)).2) (2 * r.b), true) by simp [greatSagF, h0, h1])
  have hg := hs.1
  have hL := line_ok h0
  have h28 := hL.len
  have hle := hs.2.1
  obtain ⟨z, hz, ez, e0, e1⟩ := lastAt_is hL
  obtain ⟨m, rfl⟩ : ∃ m, n = m + 1 := ⟨n - 1, by omega⟩
  rw [hle, Nat.add_sub_cancel] at hz
  obtain ⟨l0, -, -⟩ := hs.2.2 m z hz
  obtain ⟨L, hLk⟩ : ∃ L : Nat, lastAt xs = (L : Int) := ⟨(lastAt xs).toNat, by omega⟩
  have hEnd := Lib.hid (show endK xs = L + 1 by unfold endK; omega)
  have hzL : z.at_ = (L : Int) := by omega
  rw [hzL] at l0
  have hv := Lib.hid h0
  have hr := Lib.hid h1
  have Hlast := Lib.hid hLk
  have hL3 : L ≤ 3000 := by omega
  obtain ⟨⟨r1, r2⟩, ⟨r3, r4⟩⟩ := rope_bd h1
  clear hz ez hle hL hzL hLk e0 e1
  have hff : ∀ (u v : Int) (W : World), (Instr.field 74 (.agg #[.int .i64 u, .int .i64 v]) 0).run Try.prog W = .ok (.int .i64 u) W := fun _ _ _ => by rfl
  unfold R2.v
  go_enter Try.func29, Try.ntmps29
  go_wp2_with (first | (go_at_call 45; (first | refine (asked_zero g off _ c xs r _ (by first | exact hs | exact hs.later _ | exact hs.alloc _ | exact (hs.alloc _).later _ | exact (hs.later _).alloc _ | exact ((hs.later _).alloc _).later _ | exact ((hs.alloc _).later _).alloc _ | exact (hs.alloc _).alloc _ | exact ((hs.alloc _).alloc _).later _ | exact (((hs.alloc _).later _).alloc _).later _) hn).onL ?_ | refine (asked_zero g off _ c xs r _ (by first | exact hs | exact hs.later _ | exact hs.alloc _ | exact (hs.alloc _).later _ | exact (hs.later _).alloc _ | exact ((hs.later _).alloc _).later _ | exact ((hs.alloc _).later _).alloc _ | exact (hs.alloc _).alloc _ | exact ((hs.alloc _).alloc _).later _ | exact (((hs.alloc _).later _).alloc _).later _) hn).on ?_); intro xq))
  clear h0 h1
  go_loopw [8, 9, 10] (fun b q i wr => ∃ k : Nat, k ≤ L + 1 ∧ i = .int .i64 (k : Int) ∧ b = .int .i64 ((greatTo xs k).1 : Nat) ∧ q = .int .i64 ((greatTo xs k).2) ∧ Below (w.alloc (.cells #[.int .i64 r.a, .int .i64 r.b] 25)).heap.size (w.alloc (.cells #[.int .i64 r.a, .int .i64 r.b] 25)) wr) (fun _ _ i _ => L + 1 - (intOf i).toNat)
  case atStart => exact ⟨0, by omega, rfl, rfl, rfl, (by repeat (with_reducible first | exact Below.refl _ _ | refine bw_later ?_ _ | refine bw_alloc ?_ _ | refine bw_drew ?_ | refine bw_set ?_ (Nat.le_refl _) _ | refine bw_set ?_ ?_ _ | exact Nat.le_refl _ | exact later_size _ _ | refine Nat.le_trans ?_ (later_size _ _) | refine Nat.le_trans ?_ (size_alloc_le _ _) | refine Nat.le_trans ?_ (Nat.le_add_right _ _)))⟩
  case round =>
    obtain ⟨k, hk, rfl, rfl, rfl, hb⟩ := hrel
    obtain ⟨y, rfl⟩ := exists_later hb
    clear hb
    have hgy : g < (later (w.alloc (.cells #[.int .i64 r.a, .int .i64 r.b] 25)) y).heap.size := lt_later_1_0 w _ y g hg
    obtain ⟨g1, g2, g3, g4⟩ := great_bd hv.out k (by rw [Hlast.out]; omega)
    by_cases hkL : k ≤ L
    · have hkI : (k : Int) ≤ (L : Int) := by omega
      have ho : onLine xs (k : Int) = true := by simp [onLine, hv.out, inB, Hlast.out]; omega
      obtain ⟨b1, b2⟩ := bendX_bd ho
      obtain ⟨⟨x1, x2⟩, ⟨y1, y2⟩⟩ := parts_bd ho
      obtain ⟨v1, v2⟩ := mul_bd (a := partX xs (k : Int)) (b := partY xs (k : Int)) (A := 3000) (B := 3000) x1 x2 y1 y2
      obtain ⟨v3, v4⟩ := mulM_bd r1 r2 g1 g2
      obtain ⟨v5, v6⟩ := mul_bd (a := r.a) (b := bendX xs (k : Int)) (A := 200) (B := 9000000) (by omega) r2 b1 b2
      by_cases hgt : (greatTo xs k).2 < bendX xs (k : Int)
      · have Hg := Lib.hid hgt
        have hcmp : (greatTo xs k).2 < partX xs (k : Int) * partY xs (k : Int) := hgt
        have hd : decide ((greatTo xs k).2 < partX xs (k : Int) * partY xs (k : Int)) = true := by simpa using hcmp
        go_wp2_with (first | (go_at_call 47; (first | refine (l4Parts_any g off _ c xs (k : Int) _ (by first | exact hs | exact hs.later _ | exact hs.alloc _ | exact (hs.alloc _).later _ | exact (hs.later _).alloc _ | exact ((hs.later _).alloc _).later _ | exact ((hs.alloc _).later _).alloc _ | exact (hs.alloc _).alloc _ | exact ((hs.alloc _).alloc _).later _ | exact (((hs.alloc _).later _).alloc _).later _) hn ho).onL ?_ | refine (l4Parts_any g off _ c xs (k : Int) _ (by first | exact hs | exact hs.later _ | exact hs.alloc _ | exact (hs.alloc _).later _ | exact (hs.later _).alloc _ | exact ((hs.later _).alloc _).later _ | exact ((hs.alloc _).later _).alloc _ | exact (hs.alloc _).alloc _ | exact ((hs.alloc _).alloc _).later _ | exact (((hs.alloc _).later _).alloc _).later _) hn ho).on ?_); intro xq) | ((with_reducible refine wp_region_later (by kernel_rfl) (by kernel_rfl) ?_); (repeat (go_big_quiet_step (fail))); refine wpQuiet_nil ?_; rintro _ ⟨xr, rfl⟩))
        go_roundw
        case rel => exact ⟨k + 1, by omega, by go_num, by rw [great_yes (by have := Hg.out; omega)], by rw [great_yes (by have := Hg.out; omega)]; rfl, (by repeat (with_reducible first | exact Below.refl _ _ | refine bw_later ?_ _ | refine bw_alloc ?_ _ | refine bw_drew ?_ | refine bw_set ?_ (Nat.le_refl _) _ | refine bw_set ?_ ?_ _ | exact Nat.le_refl _ | exact later_size _ _ | refine Nat.le_trans ?_ (later_size _ _) | refine Nat.le_trans ?_ (size_alloc_le _ _) | refine Nat.le_trans ?_ (Nat.le_add_right _ _)))⟩
        case measure => simp [intOf]; omega
      · have Hg := Lib.hid hgt
        have hcmp : ¬ (greatTo xs k).2 < partX xs (k : Int) * partY xs (k : Int) := hgt
        have hd : decide ((greatTo xs k).2 < partX xs (k : Int) * partY xs (k : Int)) = false := by simpa using hcmp
        go_wp2_with (first | (go_at_call 47; (first | refine (l4Parts_any g off _ c xs (k : Int) _ (by first | exact hs | exact hs.later _ | exact hs.alloc _ | exact (hs.alloc _).later _ | exact (hs.later _).alloc _ | exact ((hs.later _).alloc _).later _ | exact ((hs.alloc _).later _).alloc _ | exact (hs.alloc _).alloc _ | exact ((hs.alloc _).alloc _).later _ | exact (((hs.alloc _).later _).alloc _).later _) hn ho).onL ?_ | refine (l4Parts_any g off _ c xs (k : Int) _ (by first | exact hs | exact hs.later _ | exact hs.alloc _ | exact (hs.alloc _).later _ | exact (hs.later _).alloc _ | exact ((hs.later _).alloc _).later _ | exact ((hs.alloc _).later _).alloc _ | exact (hs.alloc _).alloc _ | exact ((hs.alloc _).alloc _).later _ | exact (((hs.alloc _).later _).alloc _).later _) hn ho).on ?_); intro xq) | ((with_reducible refine wp_region_later (by kernel_rfl) (by kernel_rfl) ?_); (repeat (go_big_quiet_step (fail))); refine wpQuiet_nil ?_; rintro _ ⟨xr, rfl⟩))
        go_roundw
        case rel => exact ⟨k + 1, by omega, by go_num, by rw [great_no (by have := Hg.out; omega)], by rw [great_no (by have := Hg.out; omega)], (by repeat (with_reducible first | exact Below.refl _ _ | refine bw_later ?_ _ | refine bw_alloc ?_ _ | refine bw_drew ?_ | refine bw_set ?_ (Nat.le_refl _) _ | refine bw_set ?_ ?_ _ | exact Nat.le_refl _ | exact later_size _ _ | refine Nat.le_trans ?_ (later_size _ _) | refine Nat.le_trans ?_ (size_alloc_le _ _) | refine Nat.le_trans ?_ (Nat.le_add_right _ _)))⟩
        case measure => simp [intOf]; omega
    · obtain rfl : k = L + 1 := by omega
      have g3' := g3 (by omega)
      have hMM := Lib.hid (show mulM r.a (greatTo xs (L + 1)).2 = r.a * (greatTo xs (L + 1)).2 by rw [mulM, if_neg (by omega)])
      obtain ⟨v5, v6⟩ := mul_bd (a := r.a) (b := (greatTo xs (L + 1)).2) (A := 200) (B := 9000000) (by omega) r2 g3' g2
      skip
      go_wp2_with (first | (go_at_call 51; (first | refine (reduce_any (r.a * (greatTo xs (L + 1)).2) (2 * r.b) (by omega) (by omega) (by omega) (by omega) _).onL ?_ | refine (reduce_any (r.a * (greatTo xs (L + 1)).2) (2 * r.b) (by omega) (by omega) (by omega) (by omega) _).on ?_); intro xq) | ((with_reducible refine wp_region_later (by kernel_rfl) (by kernel_rfl) ?_); (repeat (go_big_quiet_step (fail))); refine wpQuiet_nil ?_; rintro _ ⟨xr, rfl⟩))
      ((try simp only [Exit.inBlock, Exit.then]); refine bodyPost_ret (results_tmp4 rfl _ _ _) rfl ?_)
      exact ⟨by rw [hfin.out, hEnd.out]; rfl, (by repeat (with_reducible first | exact Below.refl _ _ | refine bw_later ?_ _ | refine bw_alloc ?_ _ | refine bw_drew ?_ | refine bw_set ?_ (Nat.le_refl _) _ | refine bw_set ?_ ?_ _ | exact Nat.le_refl _ | exact later_size _ _ | refine Nat.le_trans ?_ (later_size _ _) | refine Nat.le_trans ?_ (size_alloc_le _ _) | refine Nat.le_trans ?_ (Nat.le_add_right _ _)))⟩
theorem law_GreatestSag (A0 : Option Addr) (n0 c0 : Nat) (xs0 : List Sup) (r1 : R2) (w : World) (rd0 : ASup w A0 n0 xs0 ∧ n0 ≤ 9223372036854775807) : Gv Try.prog 8 #[.slice A0 n0 c0, r1.v] w (.bool true) := by
  obtain ⟨ha0, hm0⟩ := rd0
  replace ha0 := ha0.below2 (w' := (w.alloc (.cells #[.int .i64 r1.a, .int .i64 r1.b] 23))) (bw_alloc (Below.refl _ _) _)
  unfold Gv
  unfold R2.v
  by_cases k0 : 1048576 < n0
  · have z0 : szF n0 ((1048576 : Int)) = -1 := by unfold szF; rw [if_pos (by omega)]
    go_enter Try.func8, Try.ntmps8
    go_wp2_with fail
    refine Calls.mono (szSupport_any A0 n0 c0 ((1048576 : Int)) hm0 (by omega) (by omega) _) ?_
    rintro _ w1 ⟨rfl, b1⟩
    have hw := b1
    rw [z0]
    clear z0
    go_wp2_with fail
    go_ret
    exact ⟨rfl, bw_trans (bw_alloc (Below.refl _ _) _) hw⟩
  · have hn0 : n0 ≤ 1048576 := by omega
    have z0 : szF n0 ((1048576 : Int)) = (1048576 : Int) - (n0 : Int) := by unfold szF; rw [if_neg (by omega)]
    go_enter Try.func8, Try.ntmps8
    go_wp2_with fail
    refine Calls.mono (szSupport_any A0 n0 c0 ((1048576 : Int)) hm0 (by omega) (by omega) _) ?_
    rintro _ w1 ⟨rfl, b1⟩
    replace ha0 := ha0.below2 b1
    have hw := b1
    rw [z0]
    clear z0
    go_wp2_with fail
    (refine wp_region_C (Below (w1).heap.size (w1)) (by kernel_rfl) ?_)
    generalize hgd2 : w1.drew = w2
    have b2 : Below w1.heap.size w1 w2 := by rw [← hgd2]; exact (Below.refl _ _).drew
    clear hgd2
    have f1_0 : w1.cell? ⟨w.heap.size, 0, none⟩ = some (.int .i64 r1.a) := (hw.cell (p := ⟨_, _, none⟩) (by simp)).trans (by simp [go_sem])
    have f1_1 : w1.cell? ⟨w.heap.size, 1, none⟩ = some (.int .i64 r1.b) := (hw.cell (p := ⟨_, _, none⟩) (by simp)).trans (by simp [go_sem])
    have g1_ : w.heap.size < w1.heap.size := by have := hw.size; simp at this; omega
    have hreg := b2
    refine step_read (i := 0) (by kernel_rfl) (by kernel_rfl) rfl hreg rfl (fun K hK => ?_)
    apply Exists.intro
    refine ⟨fun x => ?_, ?_⟩
    · go_simp; (try rfl)
    go_simp; refine hK _ ?_; clear hK K
    refine step_read (i := 2) (by kernel_rfl) (by kernel_rfl) rfl hreg rfl (fun K hK => ?_)
    apply Exists.intro
    refine ⟨fun x => ?_, ?_⟩
    · go_simp; (try rfl)
    go_simp; refine hK _ ?_; clear hK K
    clear f1_0 f1_1 g1_
    replace ha0 := ha0.below2 b2
    replace hw := bw_trans hw b2
    refine step_one (i := 1) (by kernel_rfl) rfl hreg (fun K hK => ?_)
    go_wp2_with fail
    refine Calls.mono (toSupportS_any A0 n0 c0 xs0 _ ha0 hn0) ?_
    rintro _ w3 ⟨g3, rfl, q3, hB3, b3⟩
    replace ha0 := ha0.below2 b3
    replace hw := bw_trans hw b3
    replace hreg := bw_trans hreg b3
    (try go_wp2)
    (try refine hK _ _ ?_)
    (try clear hK K)
    refine step_one (i := 3) (by kernel_rfl) rfl hreg (fun K hK => ?_)
    go_wp2_with fail
    refine Calls.mono (toRope_any r1 _) ?_
    rintro _ w4 ⟨rfl, b4⟩
    replace ha0 := ha0.below2 b4
    replace hB3 := hB3.below2 b4
    replace hw := bw_trans hw b4
    (try unfold R2.v)
    replace hreg := bw_trans hreg b4
    (try go_wp2)
    (try refine hK _ _ ?_)
    (try clear hK K)
    refine step_one (i := 4) (by kernel_rfl) rfl hreg (fun K hK => ?_)
    go_wp2_with fail
    refine Calls.mono (s_GreatestSag_any g3 0 n0 n0 xs0 r1 _ hB3.reads hn0) ?_
    rintro _ w5 ⟨rfl, b5⟩
    replace ha0 := ha0.below2 b5
    replace hB3 := hB3.below2 b5
    replace hw := bw_trans hw b5
    replace hreg := bw_trans hreg b5
    (try go_wp2)
    (try refine hK _ _ ?_)
    (try clear hK K)
    refine step_read (i := 5) (by kernel_rfl) (by kernel_rfl) rfl hreg rfl (fun K hK => ?_)
    apply Exists.intro
    refine ⟨fun x => ?_, ?_⟩
    · go_simp; (try rfl)
    go_simp; refine hK _ ?_; clear hK K
    refine step_read (i := 6) (by kernel_rfl) (by kernel_rfl) rfl hreg rfl (fun K hK => ?_)
    apply Exists.intro
    refine ⟨fun x => ?_, ?_⟩
    · go_simp; (try rfl)
    go_simp; refine hK _ ?_; clear hK K
    refine step_read (i := 7) (by kernel_rfl) (by kernel_rfl) rfl hreg rfl (fun K hK => ?_)
    apply Exists.intro
    refine ⟨fun x => ?_, ?_⟩
    · go_simp; (try rfl)
    go_simp; refine hK _ ?_; clear hK K
    refine step_read (i := 8) (by kernel_rfl) (by kernel_rfl) rfl hreg rfl (fun K hK => ?_)
    apply Exists.intro
    refine ⟨fun x => ?_, ?_⟩
    · go_simp; (try rfl)
    go_simp; refine hK _ ?_; clear hK K
    refine step_read (i := 9) (by kernel_rfl) (by kernel_rfl) rfl hreg rfl (fun K hK => ?_)
    apply Exists.intro
    refine ⟨fun x => ?_, ?_⟩
    · go_simp; (try rfl)
    go_simp; refine hK _ ?_; clear hK K
    refine step_read (i := 10) (by kernel_rfl) (by kernel_rfl) rfl hreg rfl (fun K hK => ?_)
    apply Exists.intro
    refine ⟨fun x => ?_, ?_⟩
    · go_simp; (try rfl)
    go_simp; refine hK _ ?_; clear hK K
    refine step_read (i := 11) (by kernel_rfl) (by kernel_rfl) rfl hreg rfl (fun K hK => ?_)
    apply Exists.intro
    refine ⟨fun x => ?_, ?_⟩
    · go_simp; (try rfl)
    go_simp; refine hK _ ?_; clear hK K
    refine step_read (i := 12) (by kernel_rfl) (by kernel_rfl) rfl hreg rfl (fun K hK => ?_)
    apply Exists.intro
    refine ⟨fun x => ?_, ?_⟩
    · go_simp; (try rfl)
    go_simp; refine hK _ ?_; clear hK K
    refine step_read (i := 13) (by kernel_rfl) (by kernel_rfl) rfl hreg rfl (fun K hK => ?_)
    apply Exists.intro
    refine ⟨fun x => ?_, ?_⟩
    · go_simp; (try rfl)
    go_simp; refine hK _ ?_; clear hK K
    refine step_end (by kernel_rfl) hreg ?_
    clear hreg
    go_wp2_with fail
    refine Calls.mono (toSupportS_any A0 n0 c0 xs0 _ ha0 hn0) ?_
    rintro _ w6 ⟨g6, rfl, q6, hB6, b6⟩
    replace ha0 := ha0.below2 b6
    replace hB3 := hB3.below2 b6
    replace hw := bw_trans hw b6
    have e0 : w6.cell? ⟨w.heap.size, 0, none⟩ = some (.int .i64 r1.a) := (hw.cell (p := ⟨_, _, none⟩) (by simp)).trans (by simp [go_sem])
    have e1 : w6.cell? ⟨w.heap.size, 1, none⟩ = some (.int .i64 r1.b) := (hw.cell (p := ⟨_, _, none⟩) (by simp)).trans (by simp [go_sem])
    go_wp2_with fail
    refine Calls.mono (toRope_any r1 _) ?_
    rintro _ w7 ⟨rfl, b7⟩
    replace ha0 := ha0.below2 b7
    replace hB3 := hB3.below2 b7
    replace hB6 := hB6.below2 b7
    replace hw := bw_trans hw b7
    unfold R2.v
    clear e0 e1
    go_wp2_with fail
    refine Calls.mono (i_GreatestSag_any g6 0 n0 n0 xs0 r1 _ hB6.reads hn0) ?_
    rintro _ w8 ⟨rfl, b8⟩
    replace ha0 := ha0.below2 b8
    replace hB3 := hB3.below2 b8
    replace hB6 := hB6.below2 b8
    replace hw := bw_trans hw b8
    go_wp2_with fail
    refine Calls.mono (toSupportS_any A0 n0 c0 xs0 _ ha0 hn0) ?_
    rintro _ w9 ⟨g9, rfl, q9, hB9, b9⟩
    replace ha0 := ha0.below2 b9
    replace hB3 := hB3.below2 b9
    replace hB6 := hB6.below2 b9
    replace hw := bw_trans hw b9
    go_wp2_with fail
    refine Calls.mono (eqSupportS_any _ _ n0 n0 n0 n0 xs0 xs0 _ (ASup.of hB6.reads) (ASup.of hB9.reads) hn0 hn0) ?_
    rintro _ w10 ⟨rfl, b10⟩
    replace ha0 := ha0.below2 b10
    replace hB3 := hB3.below2 b10
    replace hB6 := hB6.below2 b10
    replace hB9 := hB9.below2 b10
    replace hw := bw_trans hw b10
    go_wp2_with fail
    go_ret
    exact ⟨rfl, bw_trans (bw_alloc (Below.refl _ _) _) hw⟩
end Go.Proofs.Ytkdekpnnnpembaa
