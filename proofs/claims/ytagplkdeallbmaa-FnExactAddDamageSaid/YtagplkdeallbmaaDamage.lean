/- Damages: one is valid; their order; a list of them is valid. -/
import Derived.Test.YtagplkdeallbmaaRope
import Derived.Test.YtagplkdeallbmaaChain
import Derived.StillTailTactics
namespace Go.Proofs.Ytagplkdeallbmaa
open Go.RowKit
def isDam (k : R5) (d : R3) : Bool := inB d.a 0 3000 && inB d.b 0 (k.b - 1) && inB d.c 1 k.c
def cmpI (x y : Int) : Int := if x < y then -1 else if y < x then 1 else 0
def orI (p q : Int) : Int := if p = 0 then q else p
def cmpD (a b : R3) : Int := orI (cmpI a.a b.a) (cmpI a.b b.b)
def okDam (k : R5) (xs : List R3) : Bool := isKind k && decide (xs.length ≤ 15) && chain (isDam k) (fun a b => decide (cmpD a b < 0)) xs
theorem cmpD_lt (a b : R3) : decide (cmpD a b < 0) = (decide (a.a < b.a) || (decide (a.a = b.a) && decide (a.b < b.b))) := by
  unfold cmpD orI cmpI
  by_cases h1 : a.a < b.a
  · simp [h1]
  · by_cases h2 : b.a < a.a
    · have : ¬ a.a = b.a := by omega
      simp [h1, h2, this]
    · have : a.a = b.a := by omega
      simp [this]
      split <;> (try split) <;> simp_all <;> omega
theorem dam_ok1 {q r : R3} (e1 : decide (r.a < q.a) = false) (e2 : (q.a == r.a) = false) : decide (cmpD q r < 0) = true := by
  have h1 := of_decide_eq_false e1
  have h2 : ¬ q.a = r.a := by simpa using e2
  have h3 : q.a < r.a := by omega
  simp [cmpD_lt, h3]
theorem dam_ok2 {q r : R3} (e2 : (q.a == r.a) = true) (e3 : decide (r.b ≤ q.b) = false) : decide (cmpD q r < 0) = true := by
  have h2 : q.a = r.a := by simpa using e2
  have h3 : q.b < r.b := by have := of_decide_eq_false e3; omega
  simp [cmpD_lt, h2, h3]
theorem dam_no2 {q r : R3} (e2 : (q.a == r.a) = true) (e3 : decide (r.b ≤ q.b) = true) : decide (cmpD q r < 0) = false := by
  have h2 : q.a = r.a := by simpa using e2
  have h3 : ¬ q.b < r.b := by have := of_decide_eq_true e3; omega
  simp [cmpD_lt, h2, h3]
theorem dam_no1 {q r : R3} (e1 : decide (r.a < q.a) = true) : decide (cmpD q r < 0) = false := by
  have h1 := of_decide_eq_true e1
  have h2 : ¬ q.a < r.a := by omega
  have h3 : ¬ q.a = r.a := by omega
  simp [cmpD_lt, h2, h3]
theorem isDamage_any (k : R5) (d : R3) (w : World) (hk : isKind k = true) : Gv Try.prog 49 #[k.v, d.v] w (.bool (isDam k d)) := by
  obtain ⟨-, ⟨b1, b2⟩, -, -, -⟩ := kind_bd hk
  clear hk
  unfold Gv R5.v R3.v isDam
  go_enter Try.func49, Try.ntmps49
  go_wp2_with (go_at_call 44; (first | refine (within_any _ _ _ _).onL ?_ | refine (within_any _ _ _ _).on ?_); intro xq)
  all_goals (go_ret; exact ⟨ret_bool (by simp [*]), (by repeat (with_reducible first | exact Below.refl _ _ | refine bw_later ?_ _ | refine bw_alloc ?_ _ | refine bw_drew ?_ | refine bw_set ?_ (Nat.le_refl _) _ | refine bw_set ?_ ?_ _ | exact Nat.le_refl _ | exact later_size _ _ | refine Nat.le_trans ?_ (later_size _ _) | refine Nat.le_trans ?_ (size_alloc_le _ _) | refine Nat.le_trans ?_ (Nat.le_add_right _ _)))⟩)
theorem compare_same (x y : Int) (w : World) : Calls Try.prog 64 #[.int .i64 x, .int .i64 y] w fun e w' => e = .returned (.int .i64 (cmpI x y)) ∧ w' = w := by
  unfold cmpI
  by_cases h1 : x < y
  · rw [if_pos h1]
    go_enter Try.func64, Try.ntmps64
    go_wp2
    go_ret
    exact ⟨rfl, rfl⟩
  · rw [if_neg h1]
    by_cases h2 : y < x
    · rw [if_pos h2]
      go_enter Try.func64, Try.ntmps64
      go_wp2
      go_ret
      exact ⟨rfl, rfl⟩
    · rw [if_neg h2]
      go_enter Try.func64, Try.ntmps64
      go_wp2
      go_ret
      exact ⟨rfl, rfl⟩
theorem or_any (g : Nat) (p q : Int) (w : World) (c0 : w.cell? ⟨g, 0, none⟩ = some (.int .i64 p)) (c1 : w.cell? ⟨g, 1, none⟩ = some (.int .i64 q)) : Gv Try.prog 63 #[.slice (some ⟨g, 0, none⟩) 2 2] w (.int .i64 (orI p q)) := by
  unfold Gv orI
  have hfin : Hid (∀ z, (p = 0 → z = q) → (¬ p = 0 → z = p) → (if p = 0 then q else p) = z) := fun z h1 h2 => by split; exact (h1 ‹_›).symm; exact (h2 ‹_›).symm
  generalize (if p = 0 then q else p) = R at *
  go_enter Try.func63, Try.ntmps63
  go_wp2
  go_loopw [8] (fun i wr => ∃ k : Nat, w = wr ∧ i = .int .i64 (k : Int) ∧ (k = 0 ∨ (k = 1 ∧ Hid (p = 0)) ∨ (k = 2 ∧ Hid (p = 0) ∧ Hid (q = 0)))) (fun i _ => 2 - (intOf i).toNat)
  case atStart => exact ⟨0, rfl, rfl, .inl rfl⟩
  case round =>
    obtain ⟨k, rfl, rfl, h⟩ := hrel
    rcases h with rfl | ⟨rfl, hp⟩ | ⟨rfl, hp, hq⟩
    · cases hz : (p != 0)
      · go_wp2
        go_roundw
        case rel => exact ⟨1, trivial, rfl, .inr (.inl ⟨rfl, by show p = 0; simpa using hz⟩)⟩
        case measure => simp [intOf]
      · go_wp2
        go_ret
        exact ⟨ret_int (hfin.out p (fun h => by simp [h] at hz) (fun _ => rfl)).symm, (by repeat (with_reducible first | exact Below.refl _ _ | refine bw_later ?_ _ | refine bw_alloc ?_ _ | refine bw_drew ?_ | refine bw_set ?_ (Nat.le_refl _) _ | refine bw_set ?_ ?_ _ | exact Nat.le_refl _ | exact later_size _ _ | refine Nat.le_trans ?_ (later_size _ _) | refine Nat.le_trans ?_ (size_alloc_le _ _) | refine Nat.le_trans ?_ (Nat.le_add_right _ _)))⟩
    · cases hz : (q != 0)
      · go_wp2
        go_roundw
        case rel => exact ⟨2, trivial, rfl, .inr (.inr ⟨rfl, hp, by show q = 0; simpa using hz⟩)⟩
        case measure => simp [intOf]
      · go_wp2
        go_ret
        exact ⟨ret_int (hfin.out q (fun _ => rfl) (fun h => absurd hp.out h)).symm, (by repeat (with_reducible first | exact Below.refl _ _ | refine bw_later ?_ _ | refine bw_alloc ?_ _ | refine bw_drew ?_ | refine bw_set ?_ (Nat.le_refl _) _ | refine bw_set ?_ ?_ _ | exact Nat.le_refl _ | exact later_size _ _ | refine Nat.le_trans ?_ (later_size _ _) | refine Nat.le_trans ?_ (size_alloc_le _ _) | refine Nat.le_trans ?_ (Nat.le_add_right _ _)))⟩
    · go_wp2
      go_ret
      exact ⟨ret_int (hfin.out 0 (fun _ => hq.out.symm) (fun h => absurd hp.out h)).symm, (by repeat (with_reducible first | exact Below.refl _ _ | refine bw_later ?_ _ | refine bw_alloc ?_ _ | refine bw_drew ?_ | refine bw_set ?_ (Nat.le_refl _) _ | refine bw_set ?_ ?_ _ | exact Nat.le_refl _ | exact later_size _ _ | refine Nat.le_trans ?_ (later_size _ _) | refine Nat.le_trans ?_ (size_alloc_le _ _) | refine Nat.le_trans ?_ (Nat.le_add_right _ _)))⟩
theorem compareDamages_any (a b : R3) (w : World) : Gv Try.prog 50 #[a.v, b.v] w (.int .i64 (cmpD a b)) := by
  unfold Gv R3.v cmpD
  go_enter Try.func50, Try.ntmps50
  go_wp2
  refine wp_region_tail 10 (by kernel_rfl) (by kernel_rfl) ?_
  simp only [List.take_succ_cons, List.take_zero, List.drop_succ_cons, List.drop_zero]
  still_step
  still_step
  still_step
  still_step
  still_call (compare_same _ _ _)
  still_step
  still_step
  still_step
  still_step
  still_call (compare_same _ _ _)
  refine wpStill_nil ?_
  go_wp2_with (go_at_call 63; refine (or_any _ (cmpI a.a b.a) (cmpI a.b b.b) _ (by simp [go_sem]) (by simp [go_sem])).on ?_; intro x)
  go_ret
  exact ⟨rfl, (by repeat (with_reducible first | exact Below.refl _ _ | refine bw_later ?_ _ | refine bw_alloc ?_ _ | refine bw_drew ?_ | refine bw_set ?_ (Nat.le_refl _) _ | refine bw_set ?_ ?_ _ | exact Nat.le_refl _ | exact later_size _ _ | refine Nat.le_trans ?_ (later_size _ _) | refine Nat.le_trans ?_ (size_alloc_le _ _) | refine Nat.le_trans ?_ (Nat.le_add_right _ _)))⟩
theorem okDam_t {k : R5} {xs : List R3} (h : okDam k xs = true) : isKind k = true ∧ xs.length ≤ 15 ∧ chain (isDam k) (fun a b => decide (cmpD a b < 0)) xs = true := by
  simp only [okDam, Bool.and_eq_true, decide_eq_true_eq] at h
  exact ⟨h.1.1, h.1.2, h.2⟩
theorem impl_AreDamages_any (k : R5) (g off n c : Nat) (xs : List R3) (w : World) (hs : SR3 w g off n xs) (hn : n ≤ 1048576) : Gv Try.prog 28 #[k.v, .slice (some ⟨g, off, none⟩) n c] w (.bool (okDam k xs)) := by
  unfold Gv
  have hl := Lib.hid hs.2.1
  have hg := hs.1
  cases hk : isKind k
  · have hfin : okDam k xs = false := by simp [okDam, hk]
    rw [hfin]
    clear hfin
    unfold R5.v
    go_enter Try.func28, Try.ntmps28
    go_wp2_with (go_at_call 15; (first | refine (impl_IsRopeKind_any k _).onL ?_ | refine (impl_IsRopeKind_any k _).on ?_); intro xq)
    go_ret
    exact ⟨rfl, (by repeat (with_reducible first | exact Below.refl _ _ | refine bw_later ?_ _ | refine bw_alloc ?_ _ | refine bw_drew ?_ | refine bw_set ?_ (Nat.le_refl _) _ | refine bw_set ?_ ?_ _ | exact Nat.le_refl _ | exact later_size _ _ | refine Nat.le_trans ?_ (later_size _ _) | refine Nat.le_trans ?_ (size_alloc_le _ _) | refine Nat.le_trans ?_ (Nat.le_add_right _ _)))⟩
  by_cases h15 : n ≤ 15
  · have hfin := Lib.hid (show okDam k xs = chain (isDam k) (fun a b => decide (cmpD a b < 0)) xs by simp [okDam, hk, hs.2.1, h15])
    have hkk := Lib.hid hk
    unfold R5.v
    go_enter Try.func28, Try.ntmps28
    go_wp2_with (go_at_call 15; (first | refine (impl_IsRopeKind_any k _).onL ?_ | refine (impl_IsRopeKind_any k _).on ?_); intro xq)
    clear hk
    go_loopw [17] (fun i wr => ∃ m : Nat, Below (w.alloc (.cells #[.int .i64 k.a, .int .i64 k.b, .int .i64 k.c, .int .i64 k.d, .int .i64 k.e] 25)).heap.size (w.alloc (.cells #[.int .i64 k.a, .int .i64 k.b, .int .i64 k.c, .int .i64 k.d, .int .i64 k.e] 25)) wr ∧ m ≤ n ∧ i = .int .i64 (m : Int) ∧ Hid (∀ j, j < m → chainAt (isDam k) (fun a b => decide (cmpD a b < 0)) xs j = true)) (fun i _ => n - (intOf i).toNat)
    case atStart => exact ⟨0, (by repeat (with_reducible first | exact Below.refl _ _ | refine bw_later ?_ _ | refine bw_alloc ?_ _ | refine bw_drew ?_ | refine bw_set ?_ (Nat.le_refl _) _ | refine bw_set ?_ ?_ _ | exact Nat.le_refl _ | exact later_size _ _ | refine Nat.le_trans ?_ (later_size _ _) | refine Nat.le_trans ?_ (size_alloc_le _ _) | refine Nat.le_trans ?_ (Nat.le_add_right _ _))), by omega, rfl, fun j hj => absurd hj (by omega)⟩
    case round =>
      obtain ⟨m, hb, hm, rfl, ha⟩ := hrel
      obtain ⟨y, rfl⟩ := exists_later hb
      clear hb
      by_cases hlt : m < n
      · obtain ⟨r, hr0⟩ := hs.at_ hlt
        obtain ⟨c0, c1, c2⟩ := hs.2.2 m r hr0
        have hr := Lib.hid hr0
        clear hr0
        cases hp : isDam k r
        · cases m with
          | zero =>
            simp only [Nat.zero_mul, Nat.add_zero] at c0 c1 c2
            go_wp2_with ((with_reducible refine wp_region_later (by kernel_rfl) (by kernel_rfl) ?_); (repeat (go_big_quiet_step ((go_at_call 49; exact (isDamage_any k r _ hkk.out).quiet)))); refine wpQuiet_nil ?_; rintro _ ⟨xr, rfl⟩)
            go_ret
            exact ⟨ret_bool (by rw [hfin.out, chain_f (by rw [hl.out]; exact hlt) (chainAt_no hr.out hp)]), (by repeat (with_reducible first | exact Below.refl _ _ | refine bw_later ?_ _ | refine bw_alloc ?_ _ | refine bw_drew ?_ | refine bw_set ?_ (Nat.le_refl _) _ | refine bw_set ?_ ?_ _ | exact Nat.le_refl _ | exact later_size _ _ | refine Nat.le_trans ?_ (later_size _ _) | refine Nat.le_trans ?_ (size_alloc_le _ _) | refine Nat.le_trans ?_ (Nat.le_add_right _ _)))⟩
          | succ j =>
            go_wp2_with ((with_reducible refine wp_region_later (by kernel_rfl) (by kernel_rfl) ?_); (repeat (go_big_quiet_step ((go_at_call 49; exact (isDamage_any k r _ hkk.out).quiet)))); refine wpQuiet_nil ?_; rintro _ ⟨xr, rfl⟩)
            go_ret
            exact ⟨ret_bool (by rw [hfin.out, chain_f (by rw [hl.out]; exact hlt) (chainAt_no hr.out hp)]), (by repeat (with_reducible first | exact Below.refl _ _ | refine bw_later ?_ _ | refine bw_alloc ?_ _ | refine bw_drew ?_ | refine bw_set ?_ (Nat.le_refl _) _ | refine bw_set ?_ ?_ _ | exact Nat.le_refl _ | exact later_size _ _ | refine Nat.le_trans ?_ (later_size _ _) | refine Nat.le_trans ?_ (size_alloc_le _ _) | refine Nat.le_trans ?_ (Nat.le_add_right _ _)))⟩
        · cases m with
          | zero =>
            simp only [Nat.zero_mul, Nat.add_zero] at c0 c1 c2
            go_wp2_with ((with_reducible refine wp_region_later (by kernel_rfl) (by kernel_rfl) ?_); (repeat (go_big_quiet_step ((go_at_call 49; exact (isDamage_any k r _ hkk.out).quiet)))); refine wpQuiet_nil ?_; rintro _ ⟨xr, rfl⟩)
            go_roundw
            case rel => exact ⟨1, (by repeat (with_reducible first | exact Below.refl _ _ | refine bw_later ?_ _ | refine bw_alloc ?_ _ | refine bw_drew ?_ | refine bw_set ?_ (Nat.le_refl _) _ | refine bw_set ?_ ?_ _ | exact Nat.le_refl _ | exact later_size _ _ | refine Nat.le_trans ?_ (later_size _ _) | refine Nat.le_trans ?_ (size_alloc_le _ _) | refine Nat.le_trans ?_ (Nat.le_add_right _ _))), by omega, by go_num, chain_step ha.out (chainAt_0 hr.out hp)⟩
            case measure => simp [intOf]; omega
          | succ j =>
            obtain ⟨q, hq0⟩ := hs.at_ (k := j) (by omega)
            obtain ⟨d0, d1, d2⟩ := hs.2.2 j q hq0
            have hq := Lib.hid hq0
            clear hq0
            by_cases hcmp : cmpD q r < 0
            · have hd : decide (0 ≤ cmpD q r) = false := by simp; omega
              have Hc := Lib.hid hcmp
              clear hcmp
              go_wp2_with ((with_reducible refine wp_region_later (by kernel_rfl) (by kernel_rfl) ?_); (repeat (go_big_quiet_step ((first | (go_at_call 49; exact (isDamage_any k r _ hkk.out).quiet) | (go_at_call 50; exact (compareDamages_any q r _).quiet))))); refine wpQuiet_nil ?_; rintro _ ⟨xr, rfl⟩)
              go_roundw
              case rel => exact ⟨j + 1 + 1, (by repeat (with_reducible first | exact Below.refl _ _ | refine bw_later ?_ _ | refine bw_alloc ?_ _ | refine bw_drew ?_ | refine bw_set ?_ (Nat.le_refl _) _ | refine bw_set ?_ ?_ _ | exact Nat.le_refl _ | exact later_size _ _ | refine Nat.le_trans ?_ (later_size _ _) | refine Nat.le_trans ?_ (size_alloc_le _ _) | refine Nat.le_trans ?_ (Nat.le_add_right _ _))), by omega, by go_num, chain_step ha.out (by rw [chainAt_s hr.out hq.out hp]; simpa using Hc.out)⟩
              case measure => simp [intOf]; omega
            · have hd : decide (0 ≤ cmpD q r) = true := by simp; omega
              have Hc := Lib.hid hcmp
              clear hcmp
              go_wp2_with ((with_reducible refine wp_region_later (by kernel_rfl) (by kernel_rfl) ?_); (repeat (go_big_quiet_step ((first | (go_at_call 49; exact (isDamage_any k r _ hkk.out).quiet) | (go_at_call 50; exact (compareDamages_any q r _).quiet))))); refine wpQuiet_nil ?_; rintro _ ⟨xr, rfl⟩)
              go_ret
              exact ⟨ret_bool (by rw [hfin.out, chain_f (by rw [hl.out]; exact hlt) (by rw [chainAt_s hr.out hq.out hp]; simpa using Hc.out)]), (by repeat (with_reducible first | exact Below.refl _ _ | refine bw_later ?_ _ | refine bw_alloc ?_ _ | refine bw_drew ?_ | refine bw_set ?_ (Nat.le_refl _) _ | refine bw_set ?_ ?_ _ | exact Nat.le_refl _ | exact later_size _ _ | refine Nat.le_trans ?_ (later_size _ _) | refine Nat.le_trans ?_ (size_alloc_le _ _) | refine Nat.le_trans ?_ (Nat.le_add_right _ _)))⟩
      · obtain rfl : m = n := by omega
        go_wp2
        go_ret
        exact ⟨ret_bool (by rw [hfin.out, chain_t (fun i hi => ha.out i (by have := hl.out; omega))]), (by repeat (with_reducible first | exact Below.refl _ _ | refine bw_later ?_ _ | refine bw_alloc ?_ _ | refine bw_drew ?_ | refine bw_set ?_ (Nat.le_refl _) _ | refine bw_set ?_ ?_ _ | exact Nat.le_refl _ | exact later_size _ _ | refine Nat.le_trans ?_ (later_size _ _) | refine Nat.le_trans ?_ (size_alloc_le _ _) | refine Nat.le_trans ?_ (Nat.le_add_right _ _)))⟩
  · have hfin : okDam k xs = false := by simp [okDam, hs.2.1]; omega
    rw [hfin]
    clear hfin
    unfold R5.v
    go_enter Try.func28, Try.ntmps28
    go_wp2_with (go_at_call 15; (first | refine (impl_IsRopeKind_any k _).onL ?_ | refine (impl_IsRopeKind_any k _).on ?_); intro xq)
    go_ret
    exact ⟨rfl, (by repeat (with_reducible first | exact Below.refl _ _ | refine bw_later ?_ _ | refine bw_alloc ?_ _ | refine bw_drew ?_ | refine bw_set ?_ (Nat.le_refl _) _ | refine bw_set ?_ ?_ _ | exact Nat.le_refl _ | exact later_size _ _ | refine Nat.le_trans ?_ (later_size _ _) | refine Nat.le_trans ?_ (size_alloc_le _ _) | refine Nat.le_trans ?_ (Nat.le_add_right _ _)))⟩
end Go.Proofs.Ytagplkdeallbmaa
