/- The place of a damage in a rising row of damages: the library's search. -/
import Derived.Test.YtagplkdeallbmaaDamage
namespace Go.Proofs.Ytagplkdeallbmaa
open Go Go.RowKit
def lessD (d x : R3) : Bool := decide (cmpD x d < 0)
def atD (d : R3) (xs : List R3) : Nat := xs.findIdx (fun x => !lessD d x)
def hitD (d : R3) (xs : List R3) : Bool := match xs[atD d xs]? with
  | some q => decide (cmpD q d = 0)
  | none => false
theorem atD_is {d : R3} {xs : List R3} {k : Nat} (hk : k ≤ xs.length) (h1 : ∀ j, j < k → ∀ q, xs[j]? = some q → cmpD q d < 0) (h2 : ∀ q, xs[k]? = some q → ¬ cmpD q d < 0) : atD d xs = k := by
  unfold atD
  rcases Nat.lt_or_ge k xs.length with h | h
  · rw [List.findIdx_eq h]
    refine ⟨?_, fun j hj => ?_⟩
    · have := h2 _ (List.getElem?_eq_getElem h)
      simp [lessD]; omega
    · have := h1 j hj _ (List.getElem?_eq_getElem (by omega))
      simp [lessD]; omega
  · obtain rfl : k = xs.length := by omega
    rw [List.findIdx_eq_length]
    intro x hx
    obtain ⟨j, hj, e⟩ := List.getElem_of_mem hx
    have := h1 j hj x (by rw [← e]; exact List.getElem?_eq_getElem hj)
    simp [lessD]; omega
set_option maxHeartbeats 4000000 in
theorem find_any (g n c : Nat) (xs : List R3) (d : R3) (w : World) (hs : SR3 w g 0 n xs) (hn : n ≤ 1000) (hmono : ∀ (i j : Nat) (p q : R3), i ≤ j → xs[i]? = some p → xs[j]? = some q → cmpD q d < 0 → cmpD p d < 0) :
    Calls Try.prog 61 #[.slice (some ⟨g, 0, none⟩) n c, d.v, .func (.func 50) #[] #[]] w fun e w' => e = .returned (.tuple #[.int .i64 (atD d xs : Nat), .bool (hitD d xs)]) ∧ Below w.heap.size w w' := by
  have HM := Lib.hid hmono
  have hl := Lib.hid hs.2.1
  have hg := hs.1
  have hgb := Nat.lt_trans hg (show w.heap.size < (w.alloc (.cells #[.int .i64 d.a, .int .i64 d.b, .int .i64 d.c] 59)).heap.size by simp)
  clear hmono
  unfold R3.v
  go_enter Try.func61, Try.ntmps61
  go_wp2
  go_loopw [9, 10] (fun i' j' wr => ∃ lo hi : Nat, Below (w.alloc (.cells #[.int .i64 d.a, .int .i64 d.b, .int .i64 d.c] 59)).heap.size (w.alloc (.cells #[.int .i64 d.a, .int .i64 d.b, .int .i64 d.c] 59)) wr ∧ i' = .int .i64 (lo : Int) ∧ j' = .int .i64 (hi : Int) ∧ lo ≤ hi ∧ hi ≤ n ∧ Hid (∀ j : Nat, j < lo → ∀ q : R3, xs[j]? = some q → cmpD q d < 0) ∧ Hid (∀ j : Nat, hi ≤ j → ∀ q : R3, xs[j]? = some q → ¬ cmpD q d < 0)) (fun i' j' _ => (intOf j').toNat - (intOf i').toNat)
  case atStart => exact ⟨0, n, (by repeat (with_reducible first | exact hbD | exact Below.refl _ _ | refine bw_later ?_ _ | refine bw_alloc ?_ _ | refine bw_drew ?_ | refine bw_set ?_ (Nat.le_refl _) _ | refine bw_set ?_ ?_ _ | exact Nat.le_refl _ | exact later_size _ _ | refine Nat.le_trans ?_ (later_size _ _) | refine Nat.le_trans ?_ (size_alloc_le _ _) | refine Nat.le_trans ?_ (Nat.le_add_right _ _))), rfl, rfl, by omega, by omega, Lib.hid fun j hj => absurd hj (by omega), Lib.hid fun j hj q hq => by have := (List.getElem?_eq_some_iff.1 hq).1; have := hl.out; omega⟩
  case round =>
    obtain ⟨lo, hi, hbw, rfl, rfl, hlh, hin, ha, hb⟩ := hrel
    obtain ⟨y, rfl⟩ := exists_later hbw
    clear hbw
    by_cases hlt : lo < hi
    · obtain ⟨m, hm⟩ : ∃ m, m = (lo + hi) / 2 := ⟨_, rfl⟩
      have hmi : ((lo : Int) + (hi : Int)) / 2 = (m : Int) := by omega
      have hmn : m < n := by omega
      have Hm := Lib.hid hm
      clear hm
      obtain ⟨r, hr0⟩ := hs.at_ hmn
      obtain ⟨c0, c1, c2⟩ := hs.2.2 m r hr0
      simp only [Nat.zero_add] at c0 c1 c2
      have hr := Lib.hid hr0
      clear hr0
      by_cases hc : cmpD r d < 0
      · have Hc := Lib.hid hc
        go_wp2_with ((with_reducible refine wp_region_later (by kernel_rfl) (by kernel_rfl) ?_); (repeat (go_big_quiet_step ((go_at_call 50; exact (compareDamages_any r d _).quiet)))); refine wpQuiet_nil ?_; rintro _ ⟨xr, rfl⟩)
        go_roundw
        case rel =>
          have hm := Hm.out
          exact ⟨m + 1, hi, (by repeat (with_reducible first | exact hbD | exact Below.refl _ _ | refine bw_later ?_ _ | refine bw_alloc ?_ _ | refine bw_drew ?_ | refine bw_set ?_ (Nat.le_refl _) _ | refine bw_set ?_ ?_ _ | exact Nat.le_refl _ | exact later_size _ _ | refine Nat.le_trans ?_ (later_size _ _) | refine Nat.le_trans ?_ (size_alloc_le _ _) | refine Nat.le_trans ?_ (Nat.le_add_right _ _))), by go_num, rfl, by omega, hin, Lib.hid (fun j hj q hq => HM.out j m q r (by omega) hq hr.out Hc.out), hb⟩
        case measure =>
          have hm := Hm.out
          simp [intOf]; omega
      · have hc' : 0 ≤ cmpD r d := by omega
        have Hc := Lib.hid hc
        clear hc
        go_wp2_with ((with_reducible refine wp_region_later (by kernel_rfl) (by kernel_rfl) ?_); (repeat (go_big_quiet_step ((go_at_call 50; exact (compareDamages_any r d _).quiet)))); refine wpQuiet_nil ?_; rintro _ ⟨xr, rfl⟩)
        go_roundw
        case rel =>
          have hm := Hm.out
          exact ⟨lo, m, (by repeat (with_reducible first | exact hbD | exact Below.refl _ _ | refine bw_later ?_ _ | refine bw_alloc ?_ _ | refine bw_drew ?_ | refine bw_set ?_ (Nat.le_refl _) _ | refine bw_set ?_ ?_ _ | exact Nat.le_refl _ | exact later_size _ _ | refine Nat.le_trans ?_ (later_size _ _) | refine Nat.le_trans ?_ (size_alloc_le _ _) | refine Nat.le_trans ?_ (Nat.le_add_right _ _))), rfl, by go_num, by omega, by omega, ha, Lib.hid (fun j hj q hq hlt => Hc.out (HM.out m j r q hj hr.out hq hlt))⟩
        case measure =>
          have hm := Hm.out
          simp [intOf]; omega
    · obtain rfl : hi = lo := by omega
      have hat : atD d xs = hi := atD_is (by have := hl.out; omega) ha.out (fun q hq => hb.out hi (Nat.le_refl _) q hq)
      by_cases hln : hi < n
      · obtain ⟨r, hr0⟩ := hs.at_ hln
        obtain ⟨c0, c1, c2⟩ := hs.2.2 hi r hr0
        simp only [Nat.zero_add] at c0 c1 c2
        have hit : hitD d xs = decide (cmpD r d = 0) := by unfold hitD; rw [hat, hr0]
        have Hat := Lib.hid hat
        have Hit := Lib.hid hit
        clear hr0 hat hit
        by_cases hz : cmpD r d = 0
        · go_wp2_with ((with_reducible refine wp_region_later (by kernel_rfl) (by kernel_rfl) ?_); (repeat (go_big_quiet_step ((go_at_call 50; exact (compareDamages_any r d _).quiet)))); refine wpQuiet_nil ?_; rintro _ ⟨xr, rfl⟩)
          go_ret2
          rw [Hat.out, Hit.out]
          exact ⟨by simp [hz], (by repeat (with_reducible first | exact hbD | exact Below.refl _ _ | refine bw_later ?_ _ | refine bw_alloc ?_ _ | refine bw_drew ?_ | refine bw_set ?_ (Nat.le_refl _) _ | refine bw_set ?_ ?_ _ | exact Nat.le_refl _ | exact later_size _ _ | refine Nat.le_trans ?_ (later_size _ _) | refine Nat.le_trans ?_ (size_alloc_le _ _) | refine Nat.le_trans ?_ (Nat.le_add_right _ _)))⟩
        · have hz' : (cmpD r d == 0) = false := by simpa using hz
          go_wp2_with ((with_reducible refine wp_region_later (by kernel_rfl) (by kernel_rfl) ?_); (repeat (go_big_quiet_step ((go_at_call 50; exact (compareDamages_any r d _).quiet)))); refine wpQuiet_nil ?_; rintro _ ⟨xr, rfl⟩)
          go_ret2
          rw [Hat.out, Hit.out]
          exact ⟨by simp [hz], (by repeat (with_reducible first | exact hbD | exact Below.refl _ _ | refine bw_later ?_ _ | refine bw_alloc ?_ _ | refine bw_drew ?_ | refine bw_set ?_ (Nat.le_refl _) _ | refine bw_set ?_ ?_ _ | exact Nat.le_refl _ | exact later_size _ _ | refine Nat.le_trans ?_ (later_size _ _) | refine Nat.le_trans ?_ (size_alloc_le _ _) | refine Nat.le_trans ?_ (Nat.le_add_right _ _)))⟩
      · have hit : hitD d xs = false := by
          unfold hitD
          rw [hat, List.getElem?_eq_none (by have := hl.out; omega)]
        have Hat := Lib.hid hat
        have Hit := Lib.hid hit
        clear hat hit
        go_wp2_with ((with_reducible refine wp_region_later (by kernel_rfl) (by kernel_rfl) ?_); (repeat (go_big_quiet_step ((go_at_call 50; exact (compareDamages_any d d _).quiet)))); refine wpQuiet_nil ?_; rintro _ ⟨xr, rfl⟩)
        go_ret2
        rw [Hat.out, Hit.out]
        exact ⟨rfl, (by repeat (with_reducible first | exact hbD | exact Below.refl _ _ | refine bw_later ?_ _ | refine bw_alloc ?_ _ | refine bw_drew ?_ | refine bw_set ?_ (Nat.le_refl _) _ | refine bw_set ?_ ?_ _ | exact Nat.le_refl _ | exact later_size _ _ | refine Nat.le_trans ?_ (later_size _ _) | refine Nat.le_trans ?_ (size_alloc_le _ _) | refine Nat.le_trans ?_ (Nat.le_add_right _ _)))⟩
end Go.Proofs.Ytagplkdeallbmaa
