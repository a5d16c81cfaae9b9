/- A ground below a line. -/
import Derived.Test.YtkdekpnnnpembaaSpan
namespace Go.Proofs.Ytkdekpnnnpembaa
open Go.RowKit
def okG (s : R2) : Bool := inB s.b 0 2000
def gLt (a b : R2) : Bool := decide (a.a < b.a)
def gHead (gs : List R2) : Bool := match gs[0]? with | some s => s.a == 0 | none => false
def gLast (gs : List R2) (z : Int) : Bool := match gs[gs.length - 1]? with | some s => s.a == z | none => false
def groundOk (xs : List Sup) (gs : List R2) : Bool := okLine xs && (inB gs.length 2 8 && (gHead gs && (gLast gs (lastAt xs) && chain okG gLt gs)))
set_option maxHeartbeats 1000000 in
theorem i_ground_any (g off n c : Nat) (xs : List Sup) (g2 off2 m c2 : Nat) (gs : List R2) (w : World) (hs : SSup w g off n xs) (hn : n ≤ 1048576) (ht : SR2 w g2 off2 m gs) (hm : m ≤ 1048576) :
    Gv Try.prog 20 #[.slice (some ⟨g, off, none⟩) n c, .slice (some ⟨g2, off2, none⟩) m c2] w (.bool (groundOk xs gs)) := by
  unfold Gv
  have hl := Lib.hid ht.2.1
  have hg := hs.1
  have hg2 := ht.1
  cases hv : okLine xs
  · have hfin : groundOk xs gs = false := by simp [groundOk, hv]
    rw [hfin]
    clear hfin
    go_enter Try.func20, Try.ntmps20
    go_wp2_with ((with_reducible refine wp_region_later (by kernel_rfl) (by kernel_rfl) ?_); (repeat (go_big_quiet_step ((first | (go_at_call 42; exact (impl_IsLine_any g off _ c xs _ (by first | exact hs | exact hs.later _ | exact hs.alloc _ | exact (hs.alloc _).later _ | exact (hs.later _).alloc _ | exact ((hs.later _).alloc _).later _ | exact ((hs.alloc _).later _).alloc _ | exact (hs.alloc _).alloc _ | exact ((hs.alloc _).alloc _).later _ | exact (((hs.alloc _).later _).alloc _).later _) hn).quiet) | (go_at_call 38; exact (within_any _ _ _ _).quiet))))); refine wpQuiet_nil ?_; rintro _ ⟨xr, rfl⟩)
    go_ret
    exact ⟨rfl, (by repeat (with_reducible first | exact Below.refl _ _ | refine bw_later ?_ _ | refine bw_alloc ?_ _ | refine bw_drew ?_ | refine bw_set ?_ (Nat.le_refl _) _ | refine bw_set ?_ ?_ _ | exact Nat.le_refl _ | exact later_size _ _ | refine Nat.le_trans ?_ (later_size _ _) | refine Nat.le_trans ?_ (size_alloc_le _ _) | refine Nat.le_trans ?_ (Nat.le_add_right _ _)))⟩
  have hL := line_ok hv
  have h28 := hL.len
  have hle := hs.2.1
  obtain ⟨z, hz, ez, -, -⟩ := lastAt_is hL
  obtain ⟨nn, rfl⟩ : ∃ nn, n = nn + 1 := ⟨n - 1, by omega⟩
  rw [hle, Nat.add_sub_cancel] at hz
  obtain ⟨z0, -, -⟩ := hs.2.2 nn z hz
  clear hz hle hL h28
  by_cases h2 : m < 2
  · have h2' : decide ((m : Int) < 2) = true := by simp; omega
    have h3p : inB (m : Int) 2 8 = false := by simp [inB]; omega
    have hfin : groundOk xs gs = false := by simp [groundOk, ht.2.1, h3p]
    rw [hfin]
    clear hfin
    go_enter Try.func20, Try.ntmps20
    go_wp2_with ((with_reducible refine wp_region_later (by kernel_rfl) (by kernel_rfl) ?_); (repeat (go_big_quiet_step ((first | (go_at_call 42; exact (impl_IsLine_any g off _ c xs _ (by first | exact hs | exact hs.later _ | exact hs.alloc _ | exact (hs.alloc _).later _ | exact (hs.later _).alloc _ | exact ((hs.later _).alloc _).later _ | exact ((hs.alloc _).later _).alloc _ | exact (hs.alloc _).alloc _ | exact ((hs.alloc _).alloc _).later _ | exact (((hs.alloc _).later _).alloc _).later _) hn).quiet) | (go_at_call 38; exact (within_any _ _ _ _).quiet))))); refine wpQuiet_nil ?_; rintro _ ⟨xr, rfl⟩)
    go_ret
    exact ⟨rfl, (by repeat (with_reducible first | exact Below.refl _ _ | refine bw_later ?_ _ | refine bw_alloc ?_ _ | refine bw_drew ?_ | refine bw_set ?_ (Nat.le_refl _) _ | refine bw_set ?_ ?_ _ | exact Nat.le_refl _ | exact later_size _ _ | refine Nat.le_trans ?_ (later_size _ _) | refine Nat.le_trans ?_ (size_alloc_le _ _) | refine Nat.le_trans ?_ (Nat.le_add_right _ _)))⟩
  by_cases h8 : 8 < m
  · have h2' : decide ((m : Int) < 2) = false := by simp; omega
    have h8' : decide ((8 : Int) < (m : Int)) = true := by simp; omega
    have h3p : inB (m : Int) 2 8 = false := by simp [inB]; omega
    have hfin : groundOk xs gs = false := by simp [groundOk, ht.2.1, h3p]
    rw [hfin]
    clear hfin
    go_enter Try.func20, Try.ntmps20
    go_wp2_with ((with_reducible refine wp_region_later (by kernel_rfl) (by kernel_rfl) ?_); (repeat (go_big_quiet_step ((first | (go_at_call 42; exact (impl_IsLine_any g off _ c xs _ (by first | exact hs | exact hs.later _ | exact hs.alloc _ | exact (hs.alloc _).later _ | exact (hs.later _).alloc _ | exact ((hs.later _).alloc _).later _ | exact ((hs.alloc _).later _).alloc _ | exact (hs.alloc _).alloc _ | exact ((hs.alloc _).alloc _).later _ | exact (((hs.alloc _).later _).alloc _).later _) hn).quiet) | (go_at_call 38; exact (within_any _ _ _ _).quiet))))); refine wpQuiet_nil ?_; rintro _ ⟨xr, rfl⟩)
    go_ret
    exact ⟨rfl, (by repeat (with_reducible first | exact Below.refl _ _ | refine bw_later ?_ _ | refine bw_alloc ?_ _ | refine bw_drew ?_ | refine bw_set ?_ (Nat.le_refl _) _ | refine bw_set ?_ ?_ _ | exact Nat.le_refl _ | exact later_size _ _ | refine Nat.le_trans ?_ (later_size _ _) | refine Nat.le_trans ?_ (size_alloc_le _ _) | refine Nat.le_trans ?_ (Nat.le_add_right _ _)))⟩
  have h2' : decide ((m : Int) < 2) = false := by simp; omega
  have h8' : decide ((8 : Int) < (m : Int)) = false := by simp; omega
  have h3p : inB (m : Int) 2 8 = true := by simp [inB]; omega
  obtain ⟨mm, rfl⟩ : ∃ mm, m = mm + 1 := ⟨m - 1, by omega⟩
  have h2q : decide ((mm : Int) + 1 < 2) = false := by simp; omega
  have h8q : decide ((8 : Int) < (mm : Int) + 1) = false := by simp; omega
  have h3q : inB ((mm : Int) + 1) 2 8 = true := by simp [inB]; omega
  have iw1 : IntKind.i64.wrap ((mm : Int) + 1 - 1) = (mm : Int) := by rw [Go.IntWalk.i64_in _ (by omega)]; omega
  have iw2 : IntKind.i64.wrap ((nn : Int) + 1 - 1) = (nn : Int) := by rw [Go.IntWalk.i64_in _ (by omega)]; omega
  have i0 : (0 : Int) < (mm : Int) + 1 := by omega
  have i1 : (mm : Int) < (mm : Int) + 1 := by omega
  have i2 : (nn : Int) < (nn : Int) + 1 := by omega
  obtain ⟨r0, hr00⟩ := ht.at_ (k := 0) (by omega)
  obtain ⟨rl, hrl0⟩ := ht.at_ (k := mm) (by omega)
  obtain ⟨f0, -⟩ := ht.2.2 0 r0 hr00
  obtain ⟨l0, -⟩ := ht.2.2 mm rl hrl0
  simp only [Nat.zero_mul, Nat.add_zero] at f0
  have hhead : gHead gs = (r0.a == 0) := by simp [gHead, hr00]
  have hlast : gLast gs (lastAt xs) = (rl.a == z.at_) := by simp only [gLast, ht.2.1, Nat.add_sub_cancel, hrl0, ez]
  clear hr00 hrl0 ez
  cases q0 : (r0.a != 0)
  rotate_left
  · have hfin : groundOk xs gs = false := by simp [groundOk, hhead, (by simpa using q0 : ¬ r0.a = 0)]
    rw [hfin]
    clear hfin
    go_enter Try.func20, Try.ntmps20
    go_wp2_with ((with_reducible refine wp_region_later (by kernel_rfl) (by kernel_rfl) ?_); (repeat (go_big_quiet_step ((first | (go_at_call 42; exact (impl_IsLine_any g off _ c xs _ (by first | exact hs | exact hs.later _ | exact hs.alloc _ | exact (hs.alloc _).later _ | exact (hs.later _).alloc _ | exact ((hs.later _).alloc _).later _ | exact ((hs.alloc _).later _).alloc _ | exact (hs.alloc _).alloc _ | exact ((hs.alloc _).alloc _).later _ | exact (((hs.alloc _).later _).alloc _).later _) hn).quiet) | (go_at_call 38; exact (within_any _ _ _ _).quiet))))); refine wpQuiet_nil ?_; rintro _ ⟨xr, rfl⟩)
    go_ret
    exact ⟨rfl, (by repeat (with_reducible first | exact Below.refl _ _ | refine bw_later ?_ _ | refine bw_alloc ?_ _ | refine bw_drew ?_ | refine bw_set ?_ (Nat.le_refl _) _ | refine bw_set ?_ ?_ _ | exact Nat.le_refl _ | exact later_size _ _ | refine Nat.le_trans ?_ (later_size _ _) | refine Nat.le_trans ?_ (size_alloc_le _ _) | refine Nat.le_trans ?_ (Nat.le_add_right _ _)))⟩
  cases q1 : (rl.a != z.at_)
  rotate_left
  · have hfin : groundOk xs gs = false := by simp [groundOk, hlast, (by simpa using q1 : ¬ rl.a = z.at_)]
    rw [hfin]
    clear hfin
    go_enter Try.func20, Try.ntmps20
    go_wp2_with ((with_reducible refine wp_region_later (by kernel_rfl) (by kernel_rfl) ?_); (repeat (go_big_quiet_step ((first | (go_at_call 42; exact (impl_IsLine_any g off _ c xs _ (by first | exact hs | exact hs.later _ | exact hs.alloc _ | exact (hs.alloc _).later _ | exact (hs.later _).alloc _ | exact ((hs.later _).alloc _).later _ | exact ((hs.alloc _).later _).alloc _ | exact (hs.alloc _).alloc _ | exact ((hs.alloc _).alloc _).later _ | exact (((hs.alloc _).later _).alloc _).later _) hn).quiet) | (go_at_call 38; exact (within_any _ _ _ _).quiet))))); refine wpQuiet_nil ?_; rintro _ ⟨xr, rfl⟩)
    go_ret
    exact ⟨rfl, (by repeat (with_reducible first | exact Below.refl _ _ | refine bw_later ?_ _ | refine bw_alloc ?_ _ | refine bw_drew ?_ | refine bw_set ?_ (Nat.le_refl _) _ | refine bw_set ?_ ?_ _ | exact Nat.le_refl _ | exact later_size _ _ | refine Nat.le_trans ?_ (later_size _ _) | refine Nat.le_trans ?_ (size_alloc_le _ _) | refine Nat.le_trans ?_ (Nat.le_add_right _ _)))⟩
  have hfin := Lib.hid (show groundOk xs gs = chain okG gLt gs by
    have e0 : r0.a = 0 := by simpa using q0
    have e1 : rl.a = z.at_ := by simpa using q1
    simp only [groundOk, hv, ht.2.1, h3p, hhead, hlast, e0, e1, beq_self_eq_true, Bool.true_and])
  clear hhead hlast
  go_enter Try.func20, Try.ntmps20
  go_wp2_with ((with_reducible refine wp_region_later (by kernel_rfl) (by kernel_rfl) ?_); (repeat (go_big_quiet_step ((first | (go_at_call 42; exact (impl_IsLine_any g off _ c xs _ (by first | exact hs | exact hs.later _ | exact hs.alloc _ | exact (hs.alloc _).later _ | exact (hs.later _).alloc _ | exact ((hs.later _).alloc _).later _ | exact ((hs.alloc _).later _).alloc _ | exact (hs.alloc _).alloc _ | exact ((hs.alloc _).alloc _).later _ | exact (((hs.alloc _).later _).alloc _).later _) hn).quiet) | (go_at_call 38; exact (within_any _ _ _ _).quiet))))); refine wpQuiet_nil ?_; rintro _ ⟨xr, rfl⟩)
  clear f0 l0 z0 q0 q1 hv h2 h8 h2' h8' h3p h2q h8q h3q iw1 iw2 i0 i1 i2
  go_loopw [46] (fun i wr => ∃ k : Nat, Below w.heap.size w wr ∧ k ≤ mm + 1 ∧ i = .int .i64 (k : Int) ∧ Hid (∀ j, j < k → chainAt okG gLt gs j = true)) (fun i _ => mm + 1 - (intOf i).toNat)
  case atStart => exact ⟨0, (by repeat (with_reducible first | exact Below.refl _ _ | refine bw_later ?_ _ | refine bw_alloc ?_ _ | refine bw_drew ?_ | refine bw_set ?_ (Nat.le_refl _) _ | refine bw_set ?_ ?_ _ | exact Nat.le_refl _ | exact later_size _ _ | refine Nat.le_trans ?_ (later_size _ _) | refine Nat.le_trans ?_ (size_alloc_le _ _) | refine Nat.le_trans ?_ (Nat.le_add_right _ _))), by omega, rfl, fun j hj => absurd hj (by omega)⟩
  case round =>
    obtain ⟨k, hb, hk, rfl, ha⟩ := hrel
    obtain ⟨y, rfl⟩ := exists_later hb
    clear hb
    have hgy := lt_later _ y g2 hg2
    by_cases hlt : k < mm + 1
    · obtain ⟨r, hr0⟩ := ht.at_ hlt
      obtain ⟨c0, c1⟩ := ht.2.2 k r hr0
      have hr := Lib.hid hr0
      clear hr0
      cases p0 : okG r
      · unfold okG at p0
        cases k with
        | zero =>
          simp only [Nat.zero_mul, Nat.add_zero] at c0 c1
          go_wp2_with ((with_reducible refine wp_region_later (by kernel_rfl) (by kernel_rfl) ?_); (repeat (go_big_quiet_step ((first | (go_at_call 42; exact (impl_IsLine_any g off _ c xs _ (by first | exact hs | exact hs.later _ | exact hs.alloc _ | exact (hs.alloc _).later _ | exact (hs.later _).alloc _ | exact ((hs.later _).alloc _).later _ | exact ((hs.alloc _).later _).alloc _ | exact (hs.alloc _).alloc _ | exact ((hs.alloc _).alloc _).later _ | exact (((hs.alloc _).later _).alloc _).later _) hn).quiet) | (go_at_call 38; exact (within_any _ _ _ _).quiet))))); refine wpQuiet_nil ?_; rintro _ ⟨xr, rfl⟩)
          go_ret
          exact ⟨ret_bool (by rw [hfin.out, chain_f (by rw [hl.out]; exact hlt) (chainAt_no hr.out p0)]), (by repeat (with_reducible first | exact Below.refl _ _ | refine bw_later ?_ _ | refine bw_alloc ?_ _ | refine bw_drew ?_ | refine bw_set ?_ (Nat.le_refl _) _ | refine bw_set ?_ ?_ _ | exact Nat.le_refl _ | exact later_size _ _ | refine Nat.le_trans ?_ (later_size _ _) | refine Nat.le_trans ?_ (size_alloc_le _ _) | refine Nat.le_trans ?_ (Nat.le_add_right _ _)))⟩
        | succ j =>
          go_wp2_with ((with_reducible refine wp_region_later (by kernel_rfl) (by kernel_rfl) ?_); (repeat (go_big_quiet_step ((first | (go_at_call 42; exact (impl_IsLine_any g off _ c xs _ (by first | exact hs | exact hs.later _ | exact hs.alloc _ | exact (hs.alloc _).later _ | exact (hs.later _).alloc _ | exact ((hs.later _).alloc _).later _ | exact ((hs.alloc _).later _).alloc _ | exact (hs.alloc _).alloc _ | exact ((hs.alloc _).alloc _).later _ | exact (((hs.alloc _).later _).alloc _).later _) hn).quiet) | (go_at_call 38; exact (within_any _ _ _ _).quiet))))); refine wpQuiet_nil ?_; rintro _ ⟨xr, rfl⟩)
          go_ret
          exact ⟨ret_bool (by rw [hfin.out, chain_f (by rw [hl.out]; exact hlt) (chainAt_no hr.out p0)]), (by repeat (with_reducible first | exact Below.refl _ _ | refine bw_later ?_ _ | refine bw_alloc ?_ _ | refine bw_drew ?_ | refine bw_set ?_ (Nat.le_refl _) _ | refine bw_set ?_ ?_ _ | exact Nat.le_refl _ | exact later_size _ _ | refine Nat.le_trans ?_ (later_size _ _) | refine Nat.le_trans ?_ (size_alloc_le _ _) | refine Nat.le_trans ?_ (Nat.le_add_right _ _)))⟩
      · unfold okG at p0
        cases k with
        | zero =>
          simp only [Nat.zero_mul, Nat.add_zero] at c0 c1
          go_wp2_with ((with_reducible refine wp_region_later (by kernel_rfl) (by kernel_rfl) ?_); (repeat (go_big_quiet_step ((first | (go_at_call 42; exact (impl_IsLine_any g off _ c xs _ (by first | exact hs | exact hs.later _ | exact hs.alloc _ | exact (hs.alloc _).later _ | exact (hs.later _).alloc _ | exact ((hs.later _).alloc _).later _ | exact ((hs.alloc _).later _).alloc _ | exact (hs.alloc _).alloc _ | exact ((hs.alloc _).alloc _).later _ | exact (((hs.alloc _).later _).alloc _).later _) hn).quiet) | (go_at_call 38; exact (within_any _ _ _ _).quiet))))); refine wpQuiet_nil ?_; rintro _ ⟨xr, rfl⟩)
          go_roundw
          case rel => exact ⟨_ + 1, (by repeat (with_reducible first | exact Below.refl _ _ | refine bw_later ?_ _ | refine bw_alloc ?_ _ | refine bw_drew ?_ | refine bw_set ?_ (Nat.le_refl _) _ | refine bw_set ?_ ?_ _ | exact Nat.le_refl _ | exact later_size _ _ | refine Nat.le_trans ?_ (later_size _ _) | refine Nat.le_trans ?_ (size_alloc_le _ _) | refine Nat.le_trans ?_ (Nat.le_add_right _ _))), by omega, by go_num, chain_step ha.out (chainAt_0 hr.out p0)⟩
          case measure => simp [intOf]; try omega
        | succ j =>
          obtain ⟨q, hq0⟩ := ht.at_ (k := j) (by omega)
          obtain ⟨d0, d1⟩ := ht.2.2 j q hq0
          have hq := Lib.hid hq0
          clear hq0
          cases e1 : decide (r.a ≤ q.a)
          · go_wp2_with ((with_reducible refine wp_region_later (by kernel_rfl) (by kernel_rfl) ?_); (repeat (go_big_quiet_step ((first | (go_at_call 42; exact (impl_IsLine_any g off _ c xs _ (by first | exact hs | exact hs.later _ | exact hs.alloc _ | exact (hs.alloc _).later _ | exact (hs.later _).alloc _ | exact ((hs.later _).alloc _).later _ | exact ((hs.alloc _).later _).alloc _ | exact (hs.alloc _).alloc _ | exact ((hs.alloc _).alloc _).later _ | exact (((hs.alloc _).later _).alloc _).later _) hn).quiet) | (go_at_call 38; exact (within_any _ _ _ _).quiet))))); refine wpQuiet_nil ?_; rintro _ ⟨xr, rfl⟩)
            go_roundw
            case rel => exact ⟨_ + 1, (by repeat (with_reducible first | exact Below.refl _ _ | refine bw_later ?_ _ | refine bw_alloc ?_ _ | refine bw_drew ?_ | refine bw_set ?_ (Nat.le_refl _) _ | refine bw_set ?_ ?_ _ | exact Nat.le_refl _ | exact later_size _ _ | refine Nat.le_trans ?_ (later_size _ _) | refine Nat.le_trans ?_ (size_alloc_le _ _) | refine Nat.le_trans ?_ (Nat.le_add_right _ _))), by omega, by go_num, chain_step ha.out (by rw [chainAt_s hr.out hq.out p0]; simp [gLt] at e1 ⊢; omega)⟩
            case measure => simp [intOf]; try omega
          · go_wp2_with ((with_reducible refine wp_region_later (by kernel_rfl) (by kernel_rfl) ?_); (repeat (go_big_quiet_step ((first | (go_at_call 42; exact (impl_IsLine_any g off _ c xs _ (by first | exact hs | exact hs.later _ | exact hs.alloc _ | exact (hs.alloc _).later _ | exact (hs.later _).alloc _ | exact ((hs.later _).alloc _).later _ | exact ((hs.alloc _).later _).alloc _ | exact (hs.alloc _).alloc _ | exact ((hs.alloc _).alloc _).later _ | exact (((hs.alloc _).later _).alloc _).later _) hn).quiet) | (go_at_call 38; exact (within_any _ _ _ _).quiet))))); refine wpQuiet_nil ?_; rintro _ ⟨xr, rfl⟩)
            go_ret
            exact ⟨ret_bool (by rw [hfin.out, chain_f (by rw [hl.out]; exact hlt) (by rw [chainAt_s hr.out hq.out p0]; simp [gLt] at e1 ⊢; omega)]), (by repeat (with_reducible first | exact Below.refl _ _ | refine bw_later ?_ _ | refine bw_alloc ?_ _ | refine bw_drew ?_ | refine bw_set ?_ (Nat.le_refl _) _ | refine bw_set ?_ ?_ _ | exact Nat.le_refl _ | exact later_size _ _ | refine Nat.le_trans ?_ (later_size _ _) | refine Nat.le_trans ?_ (size_alloc_le _ _) | refine Nat.le_trans ?_ (Nat.le_add_right _ _)))⟩
    · obtain rfl : k = mm + 1 := by omega
      go_wp2
      go_ret
      exact ⟨ret_bool (by rw [hfin.out, chain_t (fun i hi => ha.out i (by have := hl.out; omega))]), (by repeat (with_reducible first | exact Below.refl _ _ | refine bw_later ?_ _ | refine bw_alloc ?_ _ | refine bw_drew ?_ | refine bw_set ?_ (Nat.le_refl _) _ | refine bw_set ?_ ?_ _ | exact Nat.le_refl _ | exact later_size _ _ | refine Nat.le_trans ?_ (later_size _ _) | refine Nat.le_trans ?_ (size_alloc_le _ _) | refine Nat.le_trans ?_ (Nat.le_add_right _ _)))⟩
set_option maxHeartbeats 1000000 in
theorem s_ground_any (g off n c : Nat) (xs : List Sup) (g2 off2 m c2 : Nat) (gs : List R2) (w : World) (hs : SSup w g off n xs) (hn : n ≤ 1048576) (ht : SR2 w g2 off2 m gs) (hm : m ≤ 1048576) :
    Gv Try.prog 39 #[.slice (some ⟨g, off, none⟩) n c, .slice (some ⟨g2, off2, none⟩) m c2] w (.bool (groundOk xs gs)) := by
  unfold Gv
  have hl := Lib.hid ht.2.1
  have hg := hs.1
  have hg2 := ht.1
  cases hv : okLine xs
  · have hfin : groundOk xs gs = false := by simp [groundOk, hv]
    rw [hfin]
    clear hfin
    go_enter Try.func39, Try.ntmps39
    go_wp2_with ((with_reducible refine wp_region_later (by kernel_rfl) (by kernel_rfl) ?_); (repeat (go_big_quiet_step ((first | (go_at_call 58; exact (l2Line_any g off _ c xs _ (by first | exact hs | exact hs.later _ | exact hs.alloc _ | exact (hs.alloc _).later _ | exact (hs.later _).alloc _ | exact ((hs.later _).alloc _).later _ | exact ((hs.alloc _).later _).alloc _ | exact (hs.alloc _).alloc _ | exact ((hs.alloc _).alloc _).later _ | exact (((hs.alloc _).later _).alloc _).later _) hn).quiet) | (go_at_call 46; exact (in_any _ _ _ _).quiet))))); refine wpQuiet_nil ?_; rintro _ ⟨xr, rfl⟩)
    go_ret
    exact ⟨rfl, (by repeat (with_reducible first | exact Below.refl _ _ | refine bw_later ?_ _ | refine bw_alloc ?_ _ | refine bw_drew ?_ | refine bw_set ?_ (Nat.le_refl _) _ | refine bw_set ?_ ?_ _ | exact Nat.le_refl _ | exact later_size _ _ | refine Nat.le_trans ?_ (later_size _ _) | refine Nat.le_trans ?_ (size_alloc_le _ _) | refine Nat.le_trans ?_ (Nat.le_add_right _ _)))⟩
  have hL := line_ok hv
  have h28 := hL.len
  have hle := hs.2.1
  obtain ⟨z, hz, ez, -, -⟩ := lastAt_is hL
  obtain ⟨nn, rfl⟩ : ∃ nn, n = nn + 1 := ⟨n - 1, by omega⟩
  rw [hle, Nat.add_sub_cancel] at hz
  obtain ⟨z0, -, -⟩ := hs.2.2 nn z hz
  clear hz hle hL h28
  by_cases h2 : m < 2
  · have h2' : decide ((m : Int) < 2) = true := by simp; omega
    have h3p : inB (m : Int) 2 8 = false := by simp [inB]; omega
    have hfin : groundOk xs gs = false := by simp [groundOk, ht.2.1, h3p]
    rw [hfin]
    clear hfin
    go_enter Try.func39, Try.ntmps39
    go_wp2_with ((with_reducible refine wp_region_later (by kernel_rfl) (by kernel_rfl) ?_); (repeat (go_big_quiet_step ((first | (go_at_call 58; exact (l2Line_any g off _ c xs _ (by first | exact hs | exact hs.later _ | exact hs.alloc _ | exact (hs.alloc _).later _ | exact (hs.later _).alloc _ | exact ((hs.later _).alloc _).later _ | exact ((hs.alloc _).later _).alloc _ | exact (hs.alloc _).alloc _ | exact ((hs.alloc _).alloc _).later _ | exact (((hs.alloc _).later _).alloc _).later _) hn).quiet) | (go_at_call 46; exact (in_any _ _ _ _).quiet))))); refine wpQuiet_nil ?_; rintro _ ⟨xr, rfl⟩)
    go_ret
    exact ⟨rfl, (by repeat (with_reducible first | exact Below.refl _ _ | refine bw_later ?_ _ | refine bw_alloc ?_ _ | refine bw_drew ?_ | refine bw_set ?_ (Nat.le_refl _) _ | refine bw_set ?_ ?_ _ | exact Nat.le_refl _ | exact later_size _ _ | refine Nat.le_trans ?_ (later_size _ _) | refine Nat.le_trans ?_ (size_alloc_le _ _) | refine Nat.le_trans ?_ (Nat.le_add_right _ _)))⟩
  by_cases h8 : 8 < m
  · have h2' : decide ((m : Int) < 2) = false := by simp; omega
    have h8' : decide ((8 : Int) < (m : Int)) = true := by simp; omega
    have h3p : inB (m : Int) 2 8 = false := by simp [inB]; omega
    have hfin : groundOk xs gs = false := by simp [groundOk, ht.2.1, h3p]
    rw [hfin]
    clear hfin
    go_enter Try.func39, Try.ntmps39
    go_wp2_with ((with_reducible refine wp_region_later (by kernel_rfl) (by kernel_rfl) ?_); (repeat (go_big_quiet_step ((first | (go_at_call 58; exact (l2Line_any g off _ c xs _ (by first | exact hs | exact hs.later _ | exact hs.alloc _ | exact (hs.alloc _).later _ | exact (hs.later _).alloc _ | exact ((hs.later _).alloc _).later _ | exact ((hs.alloc _).later _).alloc _ | exact (hs.alloc _).alloc _ | exact ((hs.alloc _).alloc _).later _ | exact (((hs.alloc _).later _).alloc _).later _) hn).quiet) | (go_at_call 46; exact (in_any _ _ _ _).quiet))))); refine wpQuiet_nil ?_; rintro _ ⟨xr, rfl⟩)
    go_ret
    exact ⟨rfl, (by repeat (with_reducible first | exact Below.refl _ _ | refine bw_later ?_ _ | refine bw_alloc ?_ _ | refine bw_drew ?_ | refine bw_set ?_ (Nat.le_refl _) _ | refine bw_set ?_ ?_ _ | exact Nat.le_refl _ | exact later_size _ _ | refine Nat.le_trans ?_ (later_size _ _) | refine Nat.le_trans ?_ (size_alloc_le _ _) | refine Nat.le_trans ?_ (Nat.le_add_right _ _)))⟩
  have h2' : decide ((m : Int) < 2) = false := by simp; omega
  have h8' : decide ((8 : Int) < (m : Int)) = false := by simp; omega
  have h3p : inB (m : Int) 2 8 = true := by simp [inB]; omega
  obtain ⟨mm, rfl⟩ : ∃ mm, m = mm + 1 := ⟨m - 1, by omega⟩
  have h2q : decide ((mm : Int) + 1 < 2) = false := by simp; omega
  have h8q : decide ((8 : Int) < (mm : Int) + 1) = false := by simp; omega
  have h3q : inB ((mm : Int) + 1) 2 8 = true := by simp [inB]; omega
  have iw1 : IntKind.i64.wrap ((mm : Int) + 1 - 1) = (mm : Int) := by rw [Go.IntWalk.i64_in _ (by omega)]; omega
  have iw2 : IntKind.i64.wrap ((nn : Int) + 1 - 1) = (nn : Int) := by rw [Go.IntWalk.i64_in _ (by omega)]; omega
  have i0 : (0 : Int) < (mm : Int) + 1 := by omega
  have i1 : (mm : Int) < (mm : Int) + 1 := by omega
  have i2 : (nn : Int) < (nn : Int) + 1 := by omega
  obtain ⟨r0, hr00⟩ := ht.at_ (k := 0) (by omega)
  obtain ⟨rl, hrl0⟩ := ht.at_ (k := mm) (by omega)
  obtain ⟨f0, -⟩ := ht.2.2 0 r0 hr00
  obtain ⟨l0, -⟩ := ht.2.2 mm rl hrl0
  simp only [Nat.zero_mul, Nat.add_zero] at f0
  have hhead : gHead gs = (r0.a == 0) := by simp [gHead, hr00]
  have hlast : gLast gs (lastAt xs) = (rl.a == z.at_) := by simp only [gLast, ht.2.1, Nat.add_sub_cancel, hrl0, ez]
  clear hr00 hrl0 ez
  cases q0 : (r0.a != 0)
  rotate_left
  · have hfin : groundOk xs gs = false := by simp [groundOk, hhead, (by simpa using q0 : ¬ r0.a = 0)]
    rw [hfin]
    clear hfin
    go_enter Try.func39, Try.ntmps39
    go_wp2_with ((with_reducible refine wp_region_later (by kernel_rfl) (by kernel_rfl) ?_); (repeat (go_big_quiet_step ((first | (go_at_call 58; exact (l2Line_any g off _ c xs _ (by first | exact hs | exact hs.later _ | exact hs.alloc _ | exact (hs.alloc _).later _ | exact (hs.later _).alloc _ | exact ((hs.later _).alloc _).later _ | exact ((hs.alloc _).later _).alloc _ | exact (hs.alloc _).alloc _ | exact ((hs.alloc _).alloc _).later _ | exact (((hs.alloc _).later _).alloc _).later _) hn).quiet) | (go_at_call 46; exact (in_any _ _ _ _).quiet))))); refine wpQuiet_nil ?_; rintro _ ⟨xr, rfl⟩)
    go_ret
    exact ⟨rfl, (by repeat (with_reducible first | exact Below.refl _ _ | refine bw_later ?_ _ | refine bw_alloc ?_ _ | refine bw_drew ?_ | refine bw_set ?_ (Nat.le_refl _) _ | refine bw_set ?_ ?_ _ | exact Nat.le_refl _ | exact later_size _ _ | refine Nat.le_trans ?_ (later_size _ _) | refine Nat.le_trans ?_ (size_alloc_le _ _) | refine Nat.le_trans ?_ (Nat.le_add_right _ _)))⟩
  cases q1 : (rl.a != z.at_)
  rotate_left
  · have hfin : groundOk xs gs = false := by simp [groundOk, hlast, (by simpa using q1 : ¬ rl.a = z.at_)]
    rw [hfin]
    clear hfin
    go_enter Try.func39, Try.ntmps39
    go_wp2_with ((with_reducible refine wp_region_later (by kernel_rfl) (by kernel_rfl) ?_); (repeat (go_big_quiet_step ((first | (go_at_call 58; exact (l2Line_any g off _ c xs _ (by first | exact hs | exact hs.later _ | exact hs.alloc _ | exact (hs.alloc _).later _ | exact (hs.later _).alloc _ | exact ((hs.later _).alloc _).later _ | exact ((hs.alloc _).later _).alloc _ | exact (hs.alloc _).alloc _ | exact ((hs.alloc _).alloc _).later _ | exact (((hs.alloc _).later _).alloc _).later _) hn).quiet) | (go_at_call 46; exact (in_any _ _ _ _).quiet))))); refine wpQuiet_nil ?_; rintro _ ⟨xr, rfl⟩)
    go_ret
    exact ⟨rfl, (by repeat (with_reducible first | exact Below.refl _ _ | refine bw_later ?_ _ | refine bw_alloc ?_ _ | refine bw_drew ?_ | refine bw_set ?_ (Nat.le_refl _) _ | refine bw_set ?_ ?_ _ | exact Nat.le_refl _ | exact later_size _ _ | refine Nat.le_trans ?_ (later_size _ _) | refine Nat.le_trans ?_ (size_alloc_le _ _) | refine Nat.le_trans ?_ (Nat.le_add_right _ _)))⟩
  have hfin := Lib.hid (show groundOk xs gs = chain okG gLt gs by
    have e0 : r0.a = 0 := by simpa using q0
    have e1 : rl.a = z.at_ := by simpa using q1
    simp only [groundOk, hv, ht.2.1, h3p, hhead, hlast, e0, e1, beq_self_eq_true, Bool.true_and])
  clear hhead hlast
  go_enter Try.func39, Try.ntmps39
  go_wp2_with ((with_reducible refine wp_region_later (by kernel_rfl) (by kernel_rfl) ?_); (repeat (go_big_quiet_step ((first | (go_at_call 58; exact (l2Line_any g off _ c xs _ (by first | exact hs | exact hs.later _ | exact hs.alloc _ | exact (hs.alloc _).later _ | exact (hs.later _).alloc _ | exact ((hs.later _).alloc _).later _ | exact ((hs.alloc _).later _).alloc _ | exact (hs.alloc _).alloc _ | exact ((hs.alloc _).alloc _).later _ | exact (((hs.alloc _).later _).alloc _).later _) hn).quiet) | (go_at_call 46; exact (in_any _ _ _ _).quiet))))); refine wpQuiet_nil ?_; rintro _ ⟨xr, rfl⟩)
  clear f0 l0 z0 q0 q1 hv h2 h8 h2' h8' h3p h2q h8q h3q iw1 iw2 i0 i1 i2
  go_loopw [6] (fun i wr => ∃ k : Nat, Below w.heap.size w wr ∧ k ≤ mm + 1 ∧ i = .int .i64 (k : Int) ∧ Hid (∀ j, j < k → chainAt okG gLt gs j = true)) (fun i _ => mm + 1 - (intOf i).toNat)
  case atStart => exact ⟨0, (by repeat (with_reducible first | exact Below.refl _ _ | refine bw_later ?_ _ | refine bw_alloc ?_ _ | refine bw_drew ?_ | refine bw_set ?_ (Nat.le_refl _) _ | refine bw_set ?_ ?_ _ | exact Nat.le_refl _ | exact later_size _ _ | refine Nat.le_trans ?_ (later_size _ _) | refine Nat.le_trans ?_ (size_alloc_le _ _) | refine Nat.le_trans ?_ (Nat.le_add_right _ _))), by omega, rfl, fun j hj => absurd hj (by omega)⟩
  case round =>
    obtain ⟨k, hb, hk, rfl, ha⟩ := hrel
    obtain ⟨y, rfl⟩ := exists_later hb
    clear hb
    have hgy := lt_later _ y g2 hg2
    by_cases hlt : k < mm + 1
    · obtain ⟨r, hr0⟩ := ht.at_ hlt
      obtain ⟨c0, c1⟩ := ht.2.2 k r hr0
      have hr := Lib.hid hr0
      clear hr0
      cases p0 : okG r
      · unfold okG at p0
        cases k with
        | zero =>
          simp only [Nat.zero_mul, Nat.add_zero] at c0 c1
          go_wp2_with ((with_reducible refine wp_region_later (by kernel_rfl) (by kernel_rfl) ?_); (repeat (go_big_quiet_step ((first | (go_at_call 58; exact (l2Line_any g off _ c xs _ (by first | exact hs | exact hs.later _ | exact hs.alloc _ | exact (hs.alloc _).later _ | exact (hs.later _).alloc _ | exact ((hs.later _).alloc _).later _ | exact ((hs.alloc _).later _).alloc _ | exact (hs.alloc _).alloc _ | exact ((hs.alloc _).alloc _).later _ | exact (((hs.alloc _).later _).alloc _).later _) hn).quiet) | (go_at_call 46; exact (in_any _ _ _ _).quiet))))); refine wpQuiet_nil ?_; rintro _ ⟨xr, rfl⟩)
          go_ret
          exact ⟨ret_bool (by rw [hfin.out, chain_f (by rw [hl.out]; exact hlt) (chainAt_no hr.out p0)]), (by repeat (with_reducible first | exact Below.refl _ _ | refine bw_later ?_ _ | refine bw_alloc ?_ _ | refine bw_drew ?_ | refine bw_set ?_ (Nat.le_refl _) _ | refine bw_set ?_ ?_ _ | exact Nat.le_refl _ | exact later_size _ _ | refine Nat.le_trans ?_ (later_size _ _) | refine Nat.le_trans ?_ (size_alloc_le _ _) | refine Nat.le_trans ?_ (Nat.le_add_right _ _)))⟩
        | succ j =>
          go_wp2_with ((with_reducible refine wp_region_later (by kernel_rfl) (by kernel_rfl) ?_); (repeat (go_big_quiet_step ((first | (go_at_call 58; exact (l2Line_any g off _ c xs _ (by first | exact hs | exact hs.later _ | exact hs.alloc _ | exact (hs.alloc _).later _ | exact (hs.later _).alloc _ | exact ((hs.later _).alloc _).later _ | exact ((hs.alloc _).later _).alloc _ | exact (hs.alloc _).alloc _ | exact ((hs.alloc _).alloc _).later _ | exact (((hs.alloc _).later _).alloc _).later _) hn).quiet) | (go_at_call 46; exact (in_any _ _ _ _).quiet))))); refine wpQuiet_nil ?_; rintro _ ⟨xr, rfl⟩)
          go_ret
          exact ⟨ret_bool (by rw [hfin.out, chain_f (by rw [hl.out]; exact hlt) (chainAt_no hr.out p0)]), (by repeat (with_reducible first | exact Below.refl _ _ | refine bw_later ?_ _ | refine bw_alloc ?_ _ | refine bw_drew ?_ | refine bw_set ?_ (Nat.le_refl _) _ | refine bw_set ?_ ?_ _ | exact Nat.le_refl _ | exact later_size _ _ | refine Nat.le_trans ?_ (later_size _ _) | refine Nat.le_trans ?_ (size_alloc_le _ _) | refine Nat.le_trans ?_ (Nat.le_add_right _ _)))⟩
      · unfold okG at p0
        cases k with
        | zero =>
          simp only [Nat.zero_mul, Nat.add_zero] at c0 c1
          go_wp2_with ((with_reducible refine wp_region_later (by kernel_rfl) (by kernel_rfl) ?_); (repeat (go_big_quiet_step ((first | (go_at_call 58; exact (l2Line_any g off _ c xs _ (by first | exact hs | exact hs.later _ | exact hs.alloc _ | exact (hs.alloc _).later _ | exact (hs.later _).alloc _ | exact ((hs.later _).alloc _).later _ | exact ((hs.alloc _).later _).alloc _ | exact (hs.alloc _).alloc _ | exact ((hs.alloc _).alloc _).later _ | exact (((hs.alloc _).later _).alloc _).later _) hn).quiet) | (go_at_call 46; exact (in_any _ _ _ _).quiet))))); refine wpQuiet_nil ?_; rintro _ ⟨xr, rfl⟩)
          go_roundw
          case rel => exact ⟨_ + 1, (by repeat (with_reducible first | exact Below.refl _ _ | refine bw_later ?_ _ | refine bw_alloc ?_ _ | refine bw_drew ?_ | refine bw_set ?_ (Nat.le_refl _) _ | refine bw_set ?_ ?_ _ | exact Nat.le_refl _ | exact later_size _ _ | refine Nat.le_trans ?_ (later_size _ _) | refine Nat.le_trans ?_ (size_alloc_le _ _) | refine Nat.le_trans ?_ (Nat.le_add_right _ _))), by omega, by go_num, chain_step ha.out (chainAt_0 hr.out p0)⟩
          case measure => simp [intOf]; try omega
        | succ j =>
          obtain ⟨q, hq0⟩ := ht.at_ (k := j) (by omega)
          obtain ⟨d0, d1⟩ := ht.2.2 j q hq0
          have hq := Lib.hid hq0
          clear hq0
          cases e1 : decide (r.a ≤ q.a)
          · go_wp2_with ((with_reducible refine wp_region_later (by kernel_rfl) (by kernel_rfl) ?_); (repeat (go_big_quiet_step ((first | (go_at_call 58; exact (l2Line_any g off _ c xs _ (by first | exact hs | exact hs.later _ | exact hs.alloc _ | exact (hs.alloc _).later _ | exact (hs.later _).alloc _ | exact ((hs.later _).alloc _).later _ | exact ((hs.alloc _).later _).alloc _ | exact (hs.alloc _).alloc _ | exact ((hs.alloc _).alloc _).later _ | exact (((hs.alloc _).later _).alloc _).later _) hn).quiet) | (go_at_call 46; exact (in_any _ _ _ _).quiet))))); refine wpQuiet_nil ?_; rintro _ ⟨xr, rfl⟩)
            go_roundw
            case rel => exact ⟨_ + 1, (by repeat (with_reducible first | exact Below.refl _ _ | refine bw_later ?_ _ | refine bw_alloc ?_ _ | refine bw_drew ?_ | refine bw_set ?_ (Nat.le_refl _) _ | refine bw_set ?_ ?_ _ | exact Nat.le_refl _ | exact later_size _ _ | refine Nat.le_trans ?_ (later_size _ _) | refine Nat.le_trans ?_ (size_alloc_le _ _) | refine Nat.le_trans ?_ (Nat.le_add_right _ _))), by omega, by go_num, chain_step ha.out (by rw [chainAt_s hr.out hq.out p0]; simp [gLt] at e1 ⊢; omega)⟩
            case measure => simp [intOf]; try omega
          · go_wp2_with ((with_reducible refine wp_region_later (by kernel_rfl) (by kernel_rfl) ?_); (repeat (go_big_quiet_step ((first | (go_at_call 58; exact (l2Line_any g off _ c xs _ (by first | exact hs | exact hs.later _ | exact hs.alloc _ | exact (hs.alloc _).later _ | exact (hs.later _).alloc _ | exact ((hs.later _).alloc _).later _ | exact ((hs.alloc _).later _).alloc _ | exact (hs.alloc _).alloc _ | exact ((hs.alloc _).alloc _).later _ | exact (((hs.alloc _).later _).alloc _).later _) hn).quiet) | (go_at_call 46; exact (in_any _ _ _ _).quiet))))); refine wpQuiet_nil ?_; rintro _ ⟨xr, rfl⟩)
            go_ret
            exact ⟨ret_bool (by rw [hfin.out, chain_f (by rw [hl.out]; exact hlt) (by rw [chainAt_s hr.out hq.out p0]; simp [gLt] at e1 ⊢; omega)]), (by repeat (with_reducible first | exact Below.refl _ _ | refine bw_later ?_ _ | refine bw_alloc ?_ _ | refine bw_drew ?_ | refine bw_set ?_ (Nat.le_refl _) _ | refine bw_set ?_ ?_ _ | exact Nat.le_refl _ | exact later_size _ _ | refine Nat.le_trans ?_ (later_size _ _) | refine Nat.le_trans ?_ (size_alloc_le _ _) | refine Nat.le_trans ?_ (Nat.le_add_right _ _)))⟩
    · obtain rfl : k = mm + 1 := by omega
      go_wp2
      go_ret
      exact ⟨ret_bool (by rw [hfin.out, chain_t (fun i hi => ha.out i (by have := hl.out; omega))]), (by repeat (with_reducible first | exact Below.refl _ _ | refine bw_later ?_ _ | refine bw_alloc ?_ _ | refine bw_drew ?_ | refine bw_set ?_ (Nat.le_refl _) _ | refine bw_set ?_ ?_ _ | exact Nat.le_refl _ | exact later_size _ _ | refine Nat.le_trans ?_ (later_size _ _) | refine Nat.le_trans ?_ (size_alloc_le _ _) | refine Nat.le_trans ?_ (Nat.le_add_right _ _)))⟩
theorem spec_IsGround_any (g off n c : Nat) (xs : List Sup) (g2 off2 m c2 : Nat) (gs : List R2) (w : World) (hs : SSup w g off n xs) (hn : n ≤ 1048576) (ht : SR2 w g2 off2 m gs) (hm : m ≤ 1048576) :
    Gv Try.prog 17 #[.slice (some ⟨g, off, none⟩) n c, .slice (some ⟨g2, off2, none⟩) m c2] w (.bool (groundOk xs gs)) := by
  unfold Gv
  go_enter Try.func17, Try.ntmps17
  go_wp2_with (go_at_call 39; (first | refine (s_ground_any g off n c xs g2 off2 m c2 gs _ hs hn ht hm).onL ?_ | refine (s_ground_any g off n c xs g2 off2 m c2 gs _ hs hn ht hm).on ?_); intro xq)
  go_ret
  exact ⟨rfl, (by repeat (with_reducible first | exact Below.refl _ _ | refine bw_later ?_ _ | refine bw_alloc ?_ _ | refine bw_drew ?_ | refine bw_set ?_ (Nat.le_refl _) _ | refine bw_set ?_ ?_ _ | exact Nat.le_refl _ | exact later_size _ _ | refine Nat.le_trans ?_ (later_size _ _) | refine Nat.le_trans ?_ (size_alloc_le _ _) | refine Nat.le_trans ?_ (Nat.le_add_right _ _)))⟩
theorem law_IsGround (A0 : Option Addr) (n0 c0 : Nat) (xs0 : List Sup) (A1 : Option Addr) (n1 c1 : Nat) (xs1 : List R2) (w : World) (rd0 : ASup w A0 n0 xs0 ∧ n0 ≤ 9223372036854775807) (rd1 : AR2 w A1 n1 xs1 ∧ n1 ≤ 9223372036854775807) : Gv Try.prog 4 #[.slice A0 n0 c0, .slice A1 n1 c1] w (.bool true) := by
  obtain ⟨ha0, hm0⟩ := rd0
  obtain ⟨ha1, hm1⟩ := rd1
  unfold Gv
  by_cases k0 : 1048576 < n0
  · have z0 : szF n0 ((1048576 : Int)) = -1 := by unfold szF; rw [if_pos (by omega)]
    go_enter Try.func4, Try.ntmps4
    go_wp2_with fail
    refine Calls.mono (szSupport_any A0 n0 c0 ((1048576 : Int)) hm0 (by omega) (by omega) _) ?_
    rintro _ w1 ⟨rfl, b1⟩
    have hw := b1
    rw [z0]
    clear z0
    go_wp2_with fail
    go_ret
    exact ⟨rfl, hw⟩
  by_cases k1 : 1048576 < n0 + n1
  · have z0 : szF n0 ((1048576 : Int)) = (1048576 : Int) - (n0 : Int) := by unfold szF; rw [if_neg (by omega)]
    have z1 : szF n1 ((1048576 : Int) - (n0 : Int)) = -1 := by unfold szF; rw [if_pos (by omega)]
    go_enter Try.func4, Try.ntmps4
    go_wp2_with fail
    refine Calls.mono (szSupport_any A0 n0 c0 ((1048576 : Int)) hm0 (by omega) (by omega) _) ?_
    rintro _ w1 ⟨rfl, b1⟩
    have hw := b1
    rw [z0]
    clear z0
    go_wp2_with fail
    refine Calls.mono (szGroundPoint_any A1 n1 c1 ((1048576 : Int) - (n0 : Int)) hm1 (by omega) (by omega) _) ?_
    rintro _ w2 ⟨rfl, b2⟩
    replace hw := bw_trans hw b2
    rw [z1]
    clear z1
    go_wp2_with fail
    go_ret
    exact ⟨rfl, hw⟩
  · have hn0 : n0 ≤ 1048576 := by omega
    have hn1 : n1 ≤ 1048576 := by omega
    have z0 : szF n0 ((1048576 : Int)) = (1048576 : Int) - (n0 : Int) := by unfold szF; rw [if_neg (by omega)]
    have z1 : szF n1 ((1048576 : Int) - (n0 : Int)) = (1048576 : Int) - (n0 : Int) - (n1 : Int) := by unfold szF; rw [if_neg (by omega)]
    go_enter Try.func4, Try.ntmps4
    go_wp2_with fail
    refine Calls.mono (szSupport_any A0 n0 c0 ((1048576 : Int)) hm0 (by omega) (by omega) _) ?_
    rintro _ w1 ⟨rfl, b1⟩
    replace ha0 := ha0.below2 b1
    replace ha1 := ha1.below2 b1
    have hw := b1
    rw [z0]
    clear z0
    go_wp2_with fail
    refine Calls.mono (szGroundPoint_any A1 n1 c1 ((1048576 : Int) - (n0 : Int)) hm1 (by omega) (by omega) _) ?_
    rintro _ w2 ⟨rfl, b2⟩
    replace ha0 := ha0.below2 b2
    replace ha1 := ha1.below2 b2
    replace hw := bw_trans hw b2
    rw [z1]
    clear z1
    go_wp2_with fail
    refine Calls.mono (toSupportS_any A0 n0 c0 xs0 _ ha0 hn0) ?_
    rintro _ w3 ⟨g3, rfl, q3, hB3, b3⟩
    replace ha0 := ha0.below2 b3
    replace ha1 := ha1.below2 b3
    replace hw := bw_trans hw b3
    go_wp2_with fail
    refine Calls.mono (toGroundPointS_any A1 n1 c1 xs1 _ ha1 hn1) ?_
    rintro _ w4 ⟨g4, rfl, q4, hB4, b4⟩
    replace ha0 := ha0.below2 b4
    replace ha1 := ha1.below2 b4
    replace hB3 := hB3.below2 b4
    replace hw := bw_trans hw b4
    go_wp2_with fail
    refine Calls.mono (spec_IsGround_any g3 0 n0 n0 xs0 g4 0 n1 n1 xs1 _ hB3.reads hn0 hB4.reads hn1) ?_
    rintro _ w5 ⟨rfl, b5⟩
    replace ha0 := ha0.below2 b5
    replace ha1 := ha1.below2 b5
    replace hB3 := hB3.below2 b5
    replace hB4 := hB4.below2 b5
    replace hw := bw_trans hw b5
    go_wp2_with fail
    refine Calls.mono (toSupportS_any A0 n0 c0 xs0 _ ha0 hn0) ?_
    rintro _ w6 ⟨g6, rfl, q6, hB6, b6⟩
    replace ha0 := ha0.below2 b6
    replace ha1 := ha1.below2 b6
    replace hB3 := hB3.below2 b6
    replace hB4 := hB4.below2 b6
    replace hw := bw_trans hw b6
    go_wp2_with fail
    refine Calls.mono (toGroundPointS_any A1 n1 c1 xs1 _ ha1 hn1) ?_
    rintro _ w7 ⟨g7, rfl, q7, hB7, b7⟩
    replace ha0 := ha0.below2 b7
    replace ha1 := ha1.below2 b7
    replace hB3 := hB3.below2 b7
    replace hB4 := hB4.below2 b7
    replace hB6 := hB6.below2 b7
    replace hw := bw_trans hw b7
    go_wp2_with fail
    refine Calls.mono (i_ground_any g6 0 n0 n0 xs0 g7 0 n1 n1 xs1 _ hB6.reads hn0 hB7.reads hn1) ?_
    rintro _ w8 ⟨rfl, b8⟩
    replace ha0 := ha0.below2 b8
    replace ha1 := ha1.below2 b8
    replace hB3 := hB3.below2 b8
    replace hB4 := hB4.below2 b8
    replace hB6 := hB6.below2 b8
    replace hB7 := hB7.below2 b8
    replace hw := bw_trans hw b8
    go_wp2_with fail
    refine Calls.mono (toSupportS_any A0 n0 c0 xs0 _ ha0 hn0) ?_
    rintro _ w9 ⟨g9, rfl, q9, hB9, b9⟩
    replace ha0 := ha0.below2 b9
    replace ha1 := ha1.below2 b9
    replace hB3 := hB3.below2 b9
    replace hB4 := hB4.below2 b9
    replace hB6 := hB6.below2 b9
    replace hB7 := hB7.below2 b9
    replace hw := bw_trans hw b9
    go_wp2_with fail
    refine Calls.mono (eqSupportS_any _ _ n0 n0 n0 n0 xs0 xs0 _ (ASup.of hB6.reads) (ASup.of hB9.reads) hn0 hn0) ?_
    rintro _ w10 ⟨rfl, b10⟩
    replace ha0 := ha0.below2 b10
    replace ha1 := ha1.below2 b10
    replace hB3 := hB3.below2 b10
    replace hB4 := hB4.below2 b10
    replace hB6 := hB6.below2 b10
    replace hB7 := hB7.below2 b10
    replace hB9 := hB9.below2 b10
    replace hw := bw_trans hw b10
    go_wp2_with fail
    refine Calls.mono (toGroundPointS_any A1 n1 c1 xs1 _ ha1 hn1) ?_
    rintro _ w11 ⟨g11, rfl, q11, hB11, b11⟩
    replace ha0 := ha0.below2 b11
    replace ha1 := ha1.below2 b11
    replace hB3 := hB3.below2 b11
    replace hB4 := hB4.below2 b11
    replace hB6 := hB6.below2 b11
    replace hB7 := hB7.below2 b11
    replace hB9 := hB9.below2 b11
    replace hw := bw_trans hw b11
    go_wp2_with fail
    refine Calls.mono (eqGroundPointS_any _ _ n1 n1 n1 n1 xs1 xs1 _ (AR2.of hB7.reads) (AR2.of hB11.reads) hn1 hn1) ?_
    rintro _ w12 ⟨rfl, b12⟩
    replace ha0 := ha0.below2 b12
    replace ha1 := ha1.below2 b12
    replace hB3 := hB3.below2 b12
    replace hB4 := hB4.below2 b12
    replace hB6 := hB6.below2 b12
    replace hB7 := hB7.below2 b12
    replace hB9 := hB9.below2 b12
    replace hB11 := hB11.below2 b12
    replace hw := bw_trans hw b12
    go_wp2_with fail
    go_ret
    exact ⟨rfl, hw⟩
end Go.Proofs.Ytkdekpnnnpembaa
