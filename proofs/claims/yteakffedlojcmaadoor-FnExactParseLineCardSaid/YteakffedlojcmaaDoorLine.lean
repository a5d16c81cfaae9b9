/- Lines: whether one is valid. -/
import Derived.Test.YteakffedlojcmaaDoorWithin
import Derived.Test.YteakffedlojcmaaDoorTo
import Derived.Test.YteakffedlojcmaaDoorChain
namespace Go.Proofs.YteakffedlojcmaaDoor
open Go.RowKit
def okSup (s : Sup) : Bool := inB s.at_ 0 3000 && inB s.h 0 2000
def supLt (a b : Sup) : Bool := decide (a.at_ < b.at_)
def headOk (xs : List Sup) : Bool := match xs[0]? with | some s => (s.at_ == 0) && s.st | none => false
def lastOk (xs : List Sup) : Bool := match xs[xs.length - 1]? with | some s => s.st | none => false
def okLine (xs : List Sup) : Bool := inB xs.length 2 8 && (headOk xs && (lastOk xs && chain okSup supLt xs))
set_option maxHeartbeats 1000000 in
theorem impl_IsLine_any (g off n c : Nat) (xs : List Sup) (w : World) (hs : SSup w g off n xs) (hn : n ≤ 1048576) : Gv Tryd.prog 49 #[.slice (some ⟨g, off, none⟩) n c] w (.bool (okLine xs)) := by
  unfold Gv
  have hl := Lib.hid hs.2.1
  have hg := hs.1
  by_cases h28 : inB (n : Int) 2 8 = true
  rotate_left
  · have h28' : inB (n : Int) 2 8 = false := by simpa using h28
    have hfin : okLine xs = false := by simp [okLine, hs.2.1, h28']
    rw [hfin]
    clear hfin h28
    by_cases h2 : n < 2
    · have h2' : decide ((n : Int) < 2) = true := by simp; omega
      go_enter Tryd.func49, Tryd.ntmps49
      go_wp2_with fail
      go_ret
      exact ⟨rfl, (by repeat (with_reducible first | exact hbD | exact Below.refl _ _ | refine bw_later ?_ _ | refine bw_alloc ?_ _ | refine bw_drew ?_ | refine bw_set ?_ (Nat.le_refl _) _ | refine bw_set ?_ ?_ _ | exact Nat.le_refl _ | exact later_size _ _ | refine Nat.le_trans ?_ (later_size _ _) | refine Nat.le_trans ?_ (size_alloc_le _ _) | refine Nat.le_trans ?_ (Nat.le_add_right _ _)))⟩
    · have h2' : decide ((n : Int) < 2) = false := by simp; omega
      have h8' : decide ((8 : Int) < (n : Int)) = true := by
        have := inB_f h28'
        simp; omega
      go_enter Tryd.func49, Tryd.ntmps49
      go_wp2_with fail
      go_ret
      exact ⟨rfl, (by repeat (with_reducible first | exact hbD | exact Below.refl _ _ | refine bw_later ?_ _ | refine bw_alloc ?_ _ | refine bw_drew ?_ | refine bw_set ?_ (Nat.le_refl _) _ | refine bw_set ?_ ?_ _ | exact Nat.le_refl _ | exact later_size _ _ | refine Nat.le_trans ?_ (later_size _ _) | refine Nat.le_trans ?_ (size_alloc_le _ _) | refine Nat.le_trans ?_ (Nat.le_add_right _ _)))⟩
  obtain ⟨h2, h8⟩ := inB_t h28
  obtain ⟨m, rfl⟩ : ∃ m, n = m + 1 := ⟨n - 1, by omega⟩
  have h2' : decide (((m + 1 : Nat) : Int) < 2) = false := by simp; omega
  have h8' : decide ((8 : Int) < ((m + 1 : Nat) : Int)) = false := by simp; omega
  obtain ⟨r0, hr00⟩ := hs.at_ (k := 0) (by omega)
  obtain ⟨rl, hrl0⟩ := hs.at_ (k := m) (by omega)
  obtain ⟨f0, f1, f2⟩ := hs.2.2 0 r0 hr00
  obtain ⟨l0, l1, l2⟩ := hs.2.2 m rl hrl0
  simp only [Nat.zero_mul, Nat.add_zero] at f0 f1 f2
  have hhead : headOk xs = ((r0.at_ == 0) && r0.st) := by simp [headOk, hr00]
  have hlast : lastOk xs = rl.st := by simp only [lastOk, hs.2.1, Nat.add_sub_cancel, hrl0]
  clear hr00 hrl0
  cases g0 : (r0.at_ != 0)
  rotate_left
  · have hfin : okLine xs = false := by simp [okLine, hhead, (by simpa using g0 : ¬ r0.at_ = 0)]
    rw [hfin]
    clear hfin
    go_enter Tryd.func49, Tryd.ntmps49
    go_wp2_with fail
    go_ret
    exact ⟨rfl, (by repeat (with_reducible first | exact hbD | exact Below.refl _ _ | refine bw_later ?_ _ | refine bw_alloc ?_ _ | refine bw_drew ?_ | refine bw_set ?_ (Nat.le_refl _) _ | refine bw_set ?_ ?_ _ | exact Nat.le_refl _ | exact later_size _ _ | refine Nat.le_trans ?_ (later_size _ _) | refine Nat.le_trans ?_ (size_alloc_le _ _) | refine Nat.le_trans ?_ (Nat.le_add_right _ _)))⟩
  cases g1 : r0.st
  · have hfin : okLine xs = false := by simp [okLine, hhead, g1]
    rw [hfin]
    clear hfin
    go_enter Tryd.func49, Tryd.ntmps49
    go_wp2_with fail
    go_ret
    exact ⟨rfl, (by repeat (with_reducible first | exact hbD | exact Below.refl _ _ | refine bw_later ?_ _ | refine bw_alloc ?_ _ | refine bw_drew ?_ | refine bw_set ?_ (Nat.le_refl _) _ | refine bw_set ?_ ?_ _ | exact Nat.le_refl _ | exact later_size _ _ | refine Nat.le_trans ?_ (later_size _ _) | refine Nat.le_trans ?_ (size_alloc_le _ _) | refine Nat.le_trans ?_ (Nat.le_add_right _ _)))⟩
  cases g2 : rl.st
  · have hfin : okLine xs = false := by simp [okLine, hlast, g2]
    rw [hfin]
    clear hfin
    go_enter Tryd.func49, Tryd.ntmps49
    go_wp2_with fail
    go_ret
    exact ⟨rfl, (by repeat (with_reducible first | exact hbD | exact Below.refl _ _ | refine bw_later ?_ _ | refine bw_alloc ?_ _ | refine bw_drew ?_ | refine bw_set ?_ (Nat.le_refl _) _ | refine bw_set ?_ ?_ _ | exact Nat.le_refl _ | exact later_size _ _ | refine Nat.le_trans ?_ (later_size _ _) | refine Nat.le_trans ?_ (size_alloc_le _ _) | refine Nat.le_trans ?_ (Nat.le_add_right _ _)))⟩
  have hfin := Lib.hid (show okLine xs = chain okSup supLt xs by
    have hz : r0.at_ = 0 := by simpa using g0
    simp only [okLine, hs.2.1, h28, hhead, hlast, hz, g1, g2, beq_self_eq_true, Bool.true_and])
  clear hhead hlast
  go_enter Tryd.func49, Tryd.ntmps49
  go_wp2_with fail
  clear f0 f1 f2 l0 l1 l2 g0 g1 g2 h28 h2' h8'
  go_loopw [39] (fun i wr => ∃ k : Nat, Below w.heap.size w wr ∧ k ≤ m + 1 ∧ i = .int .i64 (k : Int) ∧ Hid (∀ j, j < k → chainAt okSup supLt xs j = true)) (fun i _ => m + 1 - (intOf i).toNat)
  case atStart => exact ⟨0, (by repeat (with_reducible first | exact hbD | exact Below.refl _ _ | refine bw_later ?_ _ | refine bw_alloc ?_ _ | refine bw_drew ?_ | refine bw_set ?_ (Nat.le_refl _) _ | refine bw_set ?_ ?_ _ | exact Nat.le_refl _ | exact later_size _ _ | refine Nat.le_trans ?_ (later_size _ _) | refine Nat.le_trans ?_ (size_alloc_le _ _) | refine Nat.le_trans ?_ (Nat.le_add_right _ _))), by omega, rfl, fun j hj => absurd hj (by omega)⟩
  case round =>
    obtain ⟨k, hb, hk, rfl, ha⟩ := hrel
    obtain ⟨y, rfl⟩ := exists_later hb
    clear hb
    have hgy := lt_later _ y g hg
    by_cases hlt : k < m + 1
    · obtain ⟨r, hr0⟩ := hs.at_ hlt
      obtain ⟨c0, c1, c2⟩ := hs.2.2 k r hr0
      have hr := Lib.hid hr0
      clear hr0
      cases p0 : inB r.at_ 0 3000
      · cases k with
        | zero =>
          simp only [Nat.zero_mul, Nat.add_zero] at c0 c1 c2
          go_wp2_with ((with_reducible refine wp_region_later (by kernel_rfl) (by kernel_rfl) ?_); (repeat (go_big_quiet_step ((go_at_call 34; exact (within_any _ _ _ _).quiet)))); refine wpQuiet_nil ?_; rintro _ ⟨xr, rfl⟩)
          go_ret
          exact ⟨ret_bool (by rw [hfin.out, chain_f (by rw [hl.out]; exact hlt) (chainAt_no hr.out (by simp [okSup, p0]))]), (by repeat (with_reducible first | exact hbD | exact Below.refl _ _ | refine bw_later ?_ _ | refine bw_alloc ?_ _ | refine bw_drew ?_ | refine bw_set ?_ (Nat.le_refl _) _ | refine bw_set ?_ ?_ _ | exact Nat.le_refl _ | exact later_size _ _ | refine Nat.le_trans ?_ (later_size _ _) | refine Nat.le_trans ?_ (size_alloc_le _ _) | refine Nat.le_trans ?_ (Nat.le_add_right _ _)))⟩
        | succ j =>
          go_wp2_with ((with_reducible refine wp_region_later (by kernel_rfl) (by kernel_rfl) ?_); (repeat (go_big_quiet_step ((go_at_call 34; exact (within_any _ _ _ _).quiet)))); refine wpQuiet_nil ?_; rintro _ ⟨xr, rfl⟩)
          go_ret
          exact ⟨ret_bool (by rw [hfin.out, chain_f (by rw [hl.out]; exact hlt) (chainAt_no hr.out (by simp [okSup, p0]))]), (by repeat (with_reducible first | exact hbD | exact Below.refl _ _ | refine bw_later ?_ _ | refine bw_alloc ?_ _ | refine bw_drew ?_ | refine bw_set ?_ (Nat.le_refl _) _ | refine bw_set ?_ ?_ _ | exact Nat.le_refl _ | exact later_size _ _ | refine Nat.le_trans ?_ (later_size _ _) | refine Nat.le_trans ?_ (size_alloc_le _ _) | refine Nat.le_trans ?_ (Nat.le_add_right _ _)))⟩
      · cases p1 : inB r.h 0 2000
        · cases k with
          | zero =>
            simp only [Nat.zero_mul, Nat.add_zero] at c0 c1 c2
            go_wp2_with ((with_reducible refine wp_region_later (by kernel_rfl) (by kernel_rfl) ?_); (repeat (go_big_quiet_step ((go_at_call 34; exact (within_any _ _ _ _).quiet)))); refine wpQuiet_nil ?_; rintro _ ⟨xr, rfl⟩)
            go_ret
            exact ⟨ret_bool (by rw [hfin.out, chain_f (by rw [hl.out]; exact hlt) (chainAt_no hr.out (by simp [okSup, p0, p1]))]), (by repeat (with_reducible first | exact hbD | exact Below.refl _ _ | refine bw_later ?_ _ | refine bw_alloc ?_ _ | refine bw_drew ?_ | refine bw_set ?_ (Nat.le_refl _) _ | refine bw_set ?_ ?_ _ | exact Nat.le_refl _ | exact later_size _ _ | refine Nat.le_trans ?_ (later_size _ _) | refine Nat.le_trans ?_ (size_alloc_le _ _) | refine Nat.le_trans ?_ (Nat.le_add_right _ _)))⟩
          | succ j =>
            go_wp2_with ((with_reducible refine wp_region_later (by kernel_rfl) (by kernel_rfl) ?_); (repeat (go_big_quiet_step ((go_at_call 34; exact (within_any _ _ _ _).quiet)))); refine wpQuiet_nil ?_; rintro _ ⟨xr, rfl⟩)
            go_ret
            exact ⟨ret_bool (by rw [hfin.out, chain_f (by rw [hl.out]; exact hlt) (chainAt_no hr.out (by simp [okSup, p0, p1]))]), (by repeat (with_reducible first | exact hbD | exact Below.refl _ _ | refine bw_later ?_ _ | refine bw_alloc ?_ _ | refine bw_drew ?_ | refine bw_set ?_ (Nat.le_refl _) _ | refine bw_set ?_ ?_ _ | exact Nat.le_refl _ | exact later_size _ _ | refine Nat.le_trans ?_ (later_size _ _) | refine Nat.le_trans ?_ (size_alloc_le _ _) | refine Nat.le_trans ?_ (Nat.le_add_right _ _)))⟩
        · cases k with
          | zero =>
            simp only [Nat.zero_mul, Nat.add_zero] at c0 c1 c2
            go_wp2_with ((with_reducible refine wp_region_later (by kernel_rfl) (by kernel_rfl) ?_); (repeat (go_big_quiet_step ((go_at_call 34; exact (within_any _ _ _ _).quiet)))); refine wpQuiet_nil ?_; rintro _ ⟨xr, rfl⟩)
            go_roundw
            case rel => exact ⟨_ + 1, (by repeat (with_reducible first | exact hbD | exact Below.refl _ _ | refine bw_later ?_ _ | refine bw_alloc ?_ _ | refine bw_drew ?_ | refine bw_set ?_ (Nat.le_refl _) _ | refine bw_set ?_ ?_ _ | exact Nat.le_refl _ | exact later_size _ _ | refine Nat.le_trans ?_ (later_size _ _) | refine Nat.le_trans ?_ (size_alloc_le _ _) | refine Nat.le_trans ?_ (Nat.le_add_right _ _))), by omega, by go_num, chain_step ha.out (chainAt_0 hr.out (by simp [okSup, p0, p1]))⟩
            case measure => simp [intOf]; try omega
          | succ j =>
            obtain ⟨q, hq0⟩ := hs.at_ (k := j) (by omega)
            obtain ⟨d0, d1, d2⟩ := hs.2.2 j q hq0
            have hq := Lib.hid hq0
            clear hq0
            cases e1 : decide (r.at_ ≤ q.at_)
            · go_wp2_with ((with_reducible refine wp_region_later (by kernel_rfl) (by kernel_rfl) ?_); (repeat (go_big_quiet_step ((go_at_call 34; exact (within_any _ _ _ _).quiet)))); refine wpQuiet_nil ?_; rintro _ ⟨xr, rfl⟩)
              go_roundw
              case rel => exact ⟨_ + 1, (by repeat (with_reducible first | exact hbD | exact Below.refl _ _ | refine bw_later ?_ _ | refine bw_alloc ?_ _ | refine bw_drew ?_ | refine bw_set ?_ (Nat.le_refl _) _ | refine bw_set ?_ ?_ _ | exact Nat.le_refl _ | exact later_size _ _ | refine Nat.le_trans ?_ (later_size _ _) | refine Nat.le_trans ?_ (size_alloc_le _ _) | refine Nat.le_trans ?_ (Nat.le_add_right _ _))), by omega, by go_num, chain_step ha.out (by rw [chainAt_s hr.out hq.out (by simp [okSup, p0, p1])]; simp [supLt] at e1 ⊢; omega)⟩
              case measure => simp [intOf]; try omega
            · go_wp2_with ((with_reducible refine wp_region_later (by kernel_rfl) (by kernel_rfl) ?_); (repeat (go_big_quiet_step ((go_at_call 34; exact (within_any _ _ _ _).quiet)))); refine wpQuiet_nil ?_; rintro _ ⟨xr, rfl⟩)
              go_ret
              exact ⟨ret_bool (by rw [hfin.out, chain_f (by rw [hl.out]; exact hlt) (by rw [chainAt_s hr.out hq.out (by simp [okSup, p0, p1])]; simp [supLt] at e1 ⊢; omega)]), (by repeat (with_reducible first | exact hbD | exact Below.refl _ _ | refine bw_later ?_ _ | refine bw_alloc ?_ _ | refine bw_drew ?_ | refine bw_set ?_ (Nat.le_refl _) _ | refine bw_set ?_ ?_ _ | exact Nat.le_refl _ | exact later_size _ _ | refine Nat.le_trans ?_ (later_size _ _) | refine Nat.le_trans ?_ (size_alloc_le _ _) | refine Nat.le_trans ?_ (Nat.le_add_right _ _)))⟩
    · obtain rfl : k = m + 1 := by omega
      go_wp2
      go_ret
      exact ⟨ret_bool (by rw [hfin.out, chain_t (fun i hi => ha.out i (by have := hl.out; omega))]), (by repeat (with_reducible first | exact hbD | exact Below.refl _ _ | refine bw_later ?_ _ | refine bw_alloc ?_ _ | refine bw_drew ?_ | refine bw_set ?_ (Nat.le_refl _) _ | refine bw_set ?_ ?_ _ | exact Nat.le_refl _ | exact later_size _ _ | refine Nat.le_trans ?_ (later_size _ _) | refine Nat.le_trans ?_ (size_alloc_le _ _) | refine Nat.le_trans ?_ (Nat.le_add_right _ _)))⟩
set_option maxHeartbeats 1000000 in
theorem l2Line_any (g off n c : Nat) (xs : List Sup) (w : World) (hs : SSup w g off n xs) (hn : n ≤ 1048576) : Gv Tryd.prog 46 #[.slice (some ⟨g, off, none⟩) n c] w (.bool (okLine xs)) := by
  unfold Gv
  have hl := Lib.hid hs.2.1
  have hg := hs.1
  by_cases h28 : inB (n : Int) 2 8 = true
  rotate_left
  · have h28' : inB (n : Int) 2 8 = false := by simpa using h28
    have hfin : okLine xs = false := by simp [okLine, hs.2.1, h28']
    rw [hfin]
    clear hfin h28
    by_cases h2 : n < 2
    · have h2' : decide ((n : Int) < 2) = true := by simp; omega
      go_enter Tryd.func46, Tryd.ntmps46
      go_wp2_with (go_at_call 32; (first | refine (in_any _ _ _ _).onL ?_ | refine (in_any _ _ _ _).on ?_); intro xq)
      go_ret
      exact ⟨rfl, (by repeat (with_reducible first | exact hbD | exact Below.refl _ _ | refine bw_later ?_ _ | refine bw_alloc ?_ _ | refine bw_drew ?_ | refine bw_set ?_ (Nat.le_refl _) _ | refine bw_set ?_ ?_ _ | exact Nat.le_refl _ | exact later_size _ _ | refine Nat.le_trans ?_ (later_size _ _) | refine Nat.le_trans ?_ (size_alloc_le _ _) | refine Nat.le_trans ?_ (Nat.le_add_right _ _)))⟩
    · have h2' : decide ((n : Int) < 2) = false := by simp; omega
      have h8' : decide ((8 : Int) < (n : Int)) = true := by
        have := inB_f h28'
        simp; omega
      go_enter Tryd.func46, Tryd.ntmps46
      go_wp2_with (go_at_call 32; (first | refine (in_any _ _ _ _).onL ?_ | refine (in_any _ _ _ _).on ?_); intro xq)
      go_ret
      exact ⟨rfl, (by repeat (with_reducible first | exact hbD | exact Below.refl _ _ | refine bw_later ?_ _ | refine bw_alloc ?_ _ | refine bw_drew ?_ | refine bw_set ?_ (Nat.le_refl _) _ | refine bw_set ?_ ?_ _ | exact Nat.le_refl _ | exact later_size _ _ | refine Nat.le_trans ?_ (later_size _ _) | refine Nat.le_trans ?_ (size_alloc_le _ _) | refine Nat.le_trans ?_ (Nat.le_add_right _ _)))⟩
  obtain ⟨h2, h8⟩ := inB_t h28
  obtain ⟨m, rfl⟩ : ∃ m, n = m + 1 := ⟨n - 1, by omega⟩
  have h2' : decide (((m + 1 : Nat) : Int) < 2) = false := by simp; omega
  have h8' : decide ((8 : Int) < ((m + 1 : Nat) : Int)) = false := by simp; omega
  obtain ⟨r0, hr00⟩ := hs.at_ (k := 0) (by omega)
  obtain ⟨rl, hrl0⟩ := hs.at_ (k := m) (by omega)
  obtain ⟨f0, f1, f2⟩ := hs.2.2 0 r0 hr00
  obtain ⟨l0, l1, l2⟩ := hs.2.2 m rl hrl0
  simp only [Nat.zero_mul, Nat.add_zero] at f0 f1 f2
  have hhead : headOk xs = ((r0.at_ == 0) && r0.st) := by simp [headOk, hr00]
  have hlast : lastOk xs = rl.st := by simp only [lastOk, hs.2.1, Nat.add_sub_cancel, hrl0]
  clear hr00 hrl0
  cases g0 : (r0.at_ != 0)
  rotate_left
  · have hfin : okLine xs = false := by simp [okLine, hhead, (by simpa using g0 : ¬ r0.at_ = 0)]
    rw [hfin]
    clear hfin
    go_enter Tryd.func46, Tryd.ntmps46
    go_wp2_with (go_at_call 32; (first | refine (in_any _ _ _ _).onL ?_ | refine (in_any _ _ _ _).on ?_); intro xq)
    go_ret
    exact ⟨rfl, (by repeat (with_reducible first | exact hbD | exact Below.refl _ _ | refine bw_later ?_ _ | refine bw_alloc ?_ _ | refine bw_drew ?_ | refine bw_set ?_ (Nat.le_refl _) _ | refine bw_set ?_ ?_ _ | exact Nat.le_refl _ | exact later_size _ _ | refine Nat.le_trans ?_ (later_size _ _) | refine Nat.le_trans ?_ (size_alloc_le _ _) | refine Nat.le_trans ?_ (Nat.le_add_right _ _)))⟩
  cases g1 : r0.st
  · have hfin : okLine xs = false := by simp [okLine, hhead, g1]
    rw [hfin]
    clear hfin
    go_enter Tryd.func46, Tryd.ntmps46
    go_wp2_with (go_at_call 32; (first | refine (in_any _ _ _ _).onL ?_ | refine (in_any _ _ _ _).on ?_); intro xq)
    go_ret
    exact ⟨rfl, (by repeat (with_reducible first | exact hbD | exact Below.refl _ _ | refine bw_later ?_ _ | refine bw_alloc ?_ _ | refine bw_drew ?_ | refine bw_set ?_ (Nat.le_refl _) _ | refine bw_set ?_ ?_ _ | exact Nat.le_refl _ | exact later_size _ _ | refine Nat.le_trans ?_ (later_size _ _) | refine Nat.le_trans ?_ (size_alloc_le _ _) | refine Nat.le_trans ?_ (Nat.le_add_right _ _)))⟩
  cases g2 : rl.st
  · have hfin : okLine xs = false := by simp [okLine, hlast, g2]
    rw [hfin]
    clear hfin
    go_enter Tryd.func46, Tryd.ntmps46
    go_wp2_with (go_at_call 32; (first | refine (in_any _ _ _ _).onL ?_ | refine (in_any _ _ _ _).on ?_); intro xq)
    go_ret
    exact ⟨rfl, (by repeat (with_reducible first | exact hbD | exact Below.refl _ _ | refine bw_later ?_ _ | refine bw_alloc ?_ _ | refine bw_drew ?_ | refine bw_set ?_ (Nat.le_refl _) _ | refine bw_set ?_ ?_ _ | exact Nat.le_refl _ | exact later_size _ _ | refine Nat.le_trans ?_ (later_size _ _) | refine Nat.le_trans ?_ (size_alloc_le _ _) | refine Nat.le_trans ?_ (Nat.le_add_right _ _)))⟩
  have hfin := Lib.hid (show okLine xs = chain okSup supLt xs by
    have hz : r0.at_ = 0 := by simpa using g0
    simp only [okLine, hs.2.1, h28, hhead, hlast, hz, g1, g2, beq_self_eq_true, Bool.true_and])
  clear hhead hlast
  go_enter Tryd.func46, Tryd.ntmps46
  go_wp2_with (go_at_call 32; (first | refine (in_any _ _ _ _).onL ?_ | refine (in_any _ _ _ _).on ?_); intro xq)
  clear f0 f1 f2 l0 l1 l2 g0 g1 g2 h28 h2' h8'
  go_loopw [4] (fun i wr => ∃ k : Nat, Below w.heap.size w wr ∧ k ≤ m + 1 ∧ i = .int .i64 (k : Int) ∧ Hid (∀ j, j < k → chainAt okSup supLt xs j = true)) (fun i _ => m + 1 - (intOf i).toNat)
  case atStart => exact ⟨0, (by repeat (with_reducible first | exact hbD | exact Below.refl _ _ | refine bw_later ?_ _ | refine bw_alloc ?_ _ | refine bw_drew ?_ | refine bw_set ?_ (Nat.le_refl _) _ | refine bw_set ?_ ?_ _ | exact Nat.le_refl _ | exact later_size _ _ | refine Nat.le_trans ?_ (later_size _ _) | refine Nat.le_trans ?_ (size_alloc_le _ _) | refine Nat.le_trans ?_ (Nat.le_add_right _ _))), by omega, rfl, fun j hj => absurd hj (by omega)⟩
  case round =>
    obtain ⟨k, hb, hk, rfl, ha⟩ := hrel
    obtain ⟨y, rfl⟩ := exists_later hb
    clear hb
    have hgy := lt_later _ y g hg
    by_cases hlt : k < m + 1
    · obtain ⟨r, hr0⟩ := hs.at_ hlt
      obtain ⟨c0, c1, c2⟩ := hs.2.2 k r hr0
      have hr := Lib.hid hr0
      clear hr0
      cases p0 : inB r.at_ 0 3000
      · cases k with
        | zero =>
          simp only [Nat.zero_mul, Nat.add_zero] at c0 c1 c2
          go_wp2_with ((with_reducible refine wp_region_later (by kernel_rfl) (by kernel_rfl) ?_); (repeat (go_big_quiet_step ((go_at_call 32; exact (in_any _ _ _ _).quiet)))); refine wpQuiet_nil ?_; rintro _ ⟨xr, rfl⟩)
          go_ret
          exact ⟨ret_bool (by rw [hfin.out, chain_f (by rw [hl.out]; exact hlt) (chainAt_no hr.out (by simp [okSup, p0]))]), (by repeat (with_reducible first | exact hbD | exact Below.refl _ _ | refine bw_later ?_ _ | refine bw_alloc ?_ _ | refine bw_drew ?_ | refine bw_set ?_ (Nat.le_refl _) _ | refine bw_set ?_ ?_ _ | exact Nat.le_refl _ | exact later_size _ _ | refine Nat.le_trans ?_ (later_size _ _) | refine Nat.le_trans ?_ (size_alloc_le _ _) | refine Nat.le_trans ?_ (Nat.le_add_right _ _)))⟩
        | succ j =>
          go_wp2_with ((with_reducible refine wp_region_later (by kernel_rfl) (by kernel_rfl) ?_); (repeat (go_big_quiet_step ((go_at_call 32; exact (in_any _ _ _ _).quiet)))); refine wpQuiet_nil ?_; rintro _ ⟨xr, rfl⟩)
          go_ret
          exact ⟨ret_bool (by rw [hfin.out, chain_f (by rw [hl.out]; exact hlt) (chainAt_no hr.out (by simp [okSup, p0]))]), (by repeat (with_reducible first | exact hbD | exact Below.refl _ _ | refine bw_later ?_ _ | refine bw_alloc ?_ _ | refine bw_drew ?_ | refine bw_set ?_ (Nat.le_refl _) _ | refine bw_set ?_ ?_ _ | exact Nat.le_refl _ | exact later_size _ _ | refine Nat.le_trans ?_ (later_size _ _) | refine Nat.le_trans ?_ (size_alloc_le _ _) | refine Nat.le_trans ?_ (Nat.le_add_right _ _)))⟩
      · cases p1 : inB r.h 0 2000
        · cases k with
          | zero =>
            simp only [Nat.zero_mul, Nat.add_zero] at c0 c1 c2
            go_wp2_with ((with_reducible refine wp_region_later (by kernel_rfl) (by kernel_rfl) ?_); (repeat (go_big_quiet_step ((go_at_call 32; exact (in_any _ _ _ _).quiet)))); refine wpQuiet_nil ?_; rintro _ ⟨xr, rfl⟩)
            go_ret
            exact ⟨ret_bool (by rw [hfin.out, chain_f (by rw [hl.out]; exact hlt) (chainAt_no hr.out (by simp [okSup, p0, p1]))]), (by repeat (with_reducible first | exact hbD | exact Below.refl _ _ | refine bw_later ?_ _ | refine bw_alloc ?_ _ | refine bw_drew ?_ | refine bw_set ?_ (Nat.le_refl _) _ | refine bw_set ?_ ?_ _ | exact Nat.le_refl _ | exact later_size _ _ | refine Nat.le_trans ?_ (later_size _ _) | refine Nat.le_trans ?_ (size_alloc_le _ _) | refine Nat.le_trans ?_ (Nat.le_add_right _ _)))⟩
          | succ j =>
            go_wp2_with ((with_reducible refine wp_region_later (by kernel_rfl) (by kernel_rfl) ?_); (repeat (go_big_quiet_step ((go_at_call 32; exact (in_any _ _ _ _).quiet)))); refine wpQuiet_nil ?_; rintro _ ⟨xr, rfl⟩)
            go_ret
            exact ⟨ret_bool (by rw [hfin.out, chain_f (by rw [hl.out]; exact hlt) (chainAt_no hr.out (by simp [okSup, p0, p1]))]), (by repeat (with_reducible first | exact hbD | exact Below.refl _ _ | refine bw_later ?_ _ | refine bw_alloc ?_ _ | refine bw_drew ?_ | refine bw_set ?_ (Nat.le_refl _) _ | refine bw_set ?_ ?_ _ | exact Nat.le_refl _ | exact later_size _ _ | refine Nat.le_trans ?_ (later_size _ _) | refine Nat.le_trans ?_ (size_alloc_le _ _) | refine Nat.le_trans ?_ (Nat.le_add_right _ _)))⟩
        · cases k with
          | zero =>
            simp only [Nat.zero_mul, Nat.add_zero] at c0 c1 c2
            go_wp2_with ((with_reducible refine wp_region_later (by kernel_rfl) (by kernel_rfl) ?_); (repeat (go_big_quiet_step ((go_at_call 32; exact (in_any _ _ _ _).quiet)))); refine wpQuiet_nil ?_; rintro _ ⟨xr, rfl⟩)
            go_roundw
            case rel => exact ⟨_ + 1, (by repeat (with_reducible first | exact hbD | exact Below.refl _ _ | refine bw_later ?_ _ | refine bw_alloc ?_ _ | refine bw_drew ?_ | refine bw_set ?_ (Nat.le_refl _) _ | refine bw_set ?_ ?_ _ | exact Nat.le_refl _ | exact later_size _ _ | refine Nat.le_trans ?_ (later_size _ _) | refine Nat.le_trans ?_ (size_alloc_le _ _) | refine Nat.le_trans ?_ (Nat.le_add_right _ _))), by omega, by go_num, chain_step ha.out (chainAt_0 hr.out (by simp [okSup, p0, p1]))⟩
            case measure => simp [intOf]; try omega
          | succ j =>
            obtain ⟨q, hq0⟩ := hs.at_ (k := j) (by omega)
            obtain ⟨d0, d1, d2⟩ := hs.2.2 j q hq0
            have hq := Lib.hid hq0
            clear hq0
            cases e1 : decide (r.at_ ≤ q.at_)
            · go_wp2_with ((with_reducible refine wp_region_later (by kernel_rfl) (by kernel_rfl) ?_); (repeat (go_big_quiet_step ((go_at_call 32; exact (in_any _ _ _ _).quiet)))); refine wpQuiet_nil ?_; rintro _ ⟨xr, rfl⟩)
              go_roundw
              case rel => exact ⟨_ + 1, (by repeat (with_reducible first | exact hbD | exact Below.refl _ _ | refine bw_later ?_ _ | refine bw_alloc ?_ _ | refine bw_drew ?_ | refine bw_set ?_ (Nat.le_refl _) _ | refine bw_set ?_ ?_ _ | exact Nat.le_refl _ | exact later_size _ _ | refine Nat.le_trans ?_ (later_size _ _) | refine Nat.le_trans ?_ (size_alloc_le _ _) | refine Nat.le_trans ?_ (Nat.le_add_right _ _))), by omega, by go_num, chain_step ha.out (by rw [chainAt_s hr.out hq.out (by simp [okSup, p0, p1])]; simp [supLt] at e1 ⊢; omega)⟩
              case measure => simp [intOf]; try omega
            · go_wp2_with ((with_reducible refine wp_region_later (by kernel_rfl) (by kernel_rfl) ?_); (repeat (go_big_quiet_step ((go_at_call 32; exact (in_any _ _ _ _).quiet)))); refine wpQuiet_nil ?_; rintro _ ⟨xr, rfl⟩)
              go_ret
              exact ⟨ret_bool (by rw [hfin.out, chain_f (by rw [hl.out]; exact hlt) (by rw [chainAt_s hr.out hq.out (by simp [okSup, p0, p1])]; simp [supLt] at e1 ⊢; omega)]), (by repeat (with_reducible first | exact hbD | exact Below.refl _ _ | refine bw_later ?_ _ | refine bw_alloc ?_ _ | refine bw_drew ?_ | refine bw_set ?_ (Nat.le_refl _) _ | refine bw_set ?_ ?_ _ | exact Nat.le_refl _ | exact later_size _ _ | refine Nat.le_trans ?_ (later_size _ _) | refine Nat.le_trans ?_ (size_alloc_le _ _) | refine Nat.le_trans ?_ (Nat.le_add_right _ _)))⟩
    · obtain rfl : k = m + 1 := by omega
      go_wp2
      go_ret
      exact ⟨ret_bool (by rw [hfin.out, chain_t (fun i hi => ha.out i (by have := hl.out; omega))]), (by repeat (with_reducible first | exact hbD | exact Below.refl _ _ | refine bw_later ?_ _ | refine bw_alloc ?_ _ | refine bw_drew ?_ | refine bw_set ?_ (Nat.le_refl _) _ | refine bw_set ?_ ?_ _ | exact Nat.le_refl _ | exact later_size _ _ | refine Nat.le_trans ?_ (later_size _ _) | refine Nat.le_trans ?_ (size_alloc_le _ _) | refine Nat.le_trans ?_ (Nat.le_add_right _ _)))⟩
end Go.Proofs.YteakffedlojcmaaDoor
