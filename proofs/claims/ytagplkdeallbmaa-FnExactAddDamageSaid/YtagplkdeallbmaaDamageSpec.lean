/- The reference's look at a list of damages. -/
import Derived.Test.YtagplkdeallbmaaDamage
namespace Go.Proofs.Ytagplkdeallbmaa
open Go.RowKit
theorem l2Place_any (n : Int) (w : World) : Gv Try.prog 52 #[.int .i64 n] w (.bool (inB n 0 3000)) := by
  unfold Gv
  go_enter Try.func52, Try.ntmps52
  go_wp2_with (go_at_call 45; (first | refine (in_any _ _ _ _).onL ?_ | refine (in_any _ _ _ _).on ?_); intro xq)
  go_ret
  exact ⟨rfl, (by repeat (with_reducible first | exact Below.refl _ _ | refine bw_later ?_ _ | refine bw_alloc ?_ _ | refine bw_drew ?_ | refine bw_set ?_ (Nat.le_refl _) _ | refine bw_set ?_ ?_ _ | exact Nat.le_refl _ | exact later_size _ _ | refine Nat.le_trans ?_ (later_size _ _) | refine Nat.le_trans ?_ (size_alloc_le _ _) | refine Nat.le_trans ?_ (Nat.le_add_right _ _)))⟩
set_option maxHeartbeats 1000000 in
theorem l3Good_t (k : R5) (g off n c : Nat) (xs : List R3) (w : World) (hs : SR3 w g off n xs) (hn : n ≤ 1048576) (hk : isKind k = true) : Gv Try.prog 48 #[k.v, .slice (some ⟨g, off, none⟩) n c] w (.bool (okDam k xs)) := by
  unfold Gv
  have hl := Lib.hid hs.2.1
  have hg := hs.1
  obtain ⟨-, ⟨b1, b2⟩, -, -, -⟩ := kind_bd hk
  have hfin := Lib.hid (show okDam k xs = (chain (isDam k) (fun a b => decide (cmpD a b < 0)) xs && decide (n ≤ 15)) by simp [okDam, hk, hs.2.1, Bool.and_comm])
  unfold R5.v
  go_enter Try.func48, Try.ntmps48
  go_wp2
  go_loopw [5] (fun i wr => ∃ m : Nat, Below (w.alloc (.cells #[.int .i64 k.a, .int .i64 k.b, .int .i64 k.c, .int .i64 k.d, .int .i64 k.e] 25)).heap.size (w.alloc (.cells #[.int .i64 k.a, .int .i64 k.b, .int .i64 k.c, .int .i64 k.d, .int .i64 k.e] 25)) wr ∧ m ≤ n ∧ i = .int .i64 (m : Int) ∧ Hid (∀ j, j < m → chainAt (isDam k) (fun a b => decide (cmpD a b < 0)) xs j = true)) (fun i _ => n - (intOf i).toNat)
  case atStart => exact ⟨0, (by repeat (with_reducible first | exact Below.refl _ _ | refine bw_later ?_ _ | refine bw_alloc ?_ _ | refine bw_drew ?_ | refine bw_set ?_ (Nat.le_refl _) _ | refine bw_set ?_ ?_ _ | exact Nat.le_refl _ | exact later_size _ _ | refine Nat.le_trans ?_ (later_size _ _) | refine Nat.le_trans ?_ (size_alloc_le _ _) | refine Nat.le_trans ?_ (Nat.le_add_right _ _))), by omega, rfl, fun j hj => absurd hj (by omega)⟩
  case round =>
    obtain ⟨m, hb, hm, rfl, ha⟩ := hrel
    obtain ⟨y, rfl⟩ := exists_later hb
    clear hb
    have hgy := lt_later _ y g (by simp; omega)
    have hky := lt_later _ y w.heap.size (by simp)
    by_cases hlt : m < n
    · obtain ⟨r, hr0⟩ := hs.at_ hlt
      obtain ⟨c0, c1, c2⟩ := hs.2.2 m r hr0
      have hr := Lib.hid hr0
      clear hr0
      cases p0 : inB r.a 0 3000
      · cases m with
        | zero =>
          simp only [Nat.zero_mul, Nat.add_zero] at c0 c1 c2
          go_wp2_with (first | ((with_reducible refine wp_region_later (by kernel_rfl) (by kernel_rfl) ?_); (repeat (go_big_quiet_step (fail))); refine wpQuiet_nil ?_; rintro _ ⟨xr, rfl⟩) | (go_at_call 52; (first | refine (l2Place_any _ _).onL ?_ | refine (l2Place_any _ _).on ?_); intro xq) | (go_at_call 45; (first | refine (in_any _ _ _ _).onL ?_ | refine (in_any _ _ _ _).on ?_); intro xq) | (go_at_call 43; (first | refine (l3Kind_any k _).onL ?_ | refine (l3Kind_any k _).on ?_); intro xq))
          go_ret
          exact ⟨ret_bool (by rw [hfin.out, chain_f (by rw [hl.out]; exact hlt) (chainAt_no hr.out (by simp [isDam, p0]))]; rfl), (by repeat (with_reducible first | exact Below.refl _ _ | refine bw_later ?_ _ | refine bw_alloc ?_ _ | refine bw_drew ?_ | refine bw_set ?_ (Nat.le_refl _) _ | refine bw_set ?_ ?_ _ | exact Nat.le_refl _ | exact later_size _ _ | refine Nat.le_trans ?_ (later_size _ _) | refine Nat.le_trans ?_ (size_alloc_le _ _) | refine Nat.le_trans ?_ (Nat.le_add_right _ _)))⟩
        | succ j =>
          go_wp2_with (first | ((with_reducible refine wp_region_later (by kernel_rfl) (by kernel_rfl) ?_); (repeat (go_big_quiet_step (fail))); refine wpQuiet_nil ?_; rintro _ ⟨xr, rfl⟩) | (go_at_call 52; (first | refine (l2Place_any _ _).onL ?_ | refine (l2Place_any _ _).on ?_); intro xq) | (go_at_call 45; (first | refine (in_any _ _ _ _).onL ?_ | refine (in_any _ _ _ _).on ?_); intro xq) | (go_at_call 43; (first | refine (l3Kind_any k _).onL ?_ | refine (l3Kind_any k _).on ?_); intro xq))
          go_ret
          exact ⟨ret_bool (by rw [hfin.out, chain_f (by rw [hl.out]; exact hlt) (chainAt_no hr.out (by simp [isDam, p0]))]; rfl), (by repeat (with_reducible first | exact Below.refl _ _ | refine bw_later ?_ _ | refine bw_alloc ?_ _ | refine bw_drew ?_ | refine bw_set ?_ (Nat.le_refl _) _ | refine bw_set ?_ ?_ _ | exact Nat.le_refl _ | exact later_size _ _ | refine Nat.le_trans ?_ (later_size _ _) | refine Nat.le_trans ?_ (size_alloc_le _ _) | refine Nat.le_trans ?_ (Nat.le_add_right _ _)))⟩
      · cases p1 : inB r.b 0 (k.b - 1)
        · cases m with
          | zero =>
            simp only [Nat.zero_mul, Nat.add_zero] at c0 c1 c2
            go_wp2_with (first | ((with_reducible refine wp_region_later (by kernel_rfl) (by kernel_rfl) ?_); (repeat (go_big_quiet_step (fail))); refine wpQuiet_nil ?_; rintro _ ⟨xr, rfl⟩) | (go_at_call 52; (first | refine (l2Place_any _ _).onL ?_ | refine (l2Place_any _ _).on ?_); intro xq) | (go_at_call 45; (first | refine (in_any _ _ _ _).onL ?_ | refine (in_any _ _ _ _).on ?_); intro xq) | (go_at_call 43; (first | refine (l3Kind_any k _).onL ?_ | refine (l3Kind_any k _).on ?_); intro xq))
            go_ret
            exact ⟨ret_bool (by rw [hfin.out, chain_f (by rw [hl.out]; exact hlt) (chainAt_no hr.out (by simp [isDam, p0, p1]))]; rfl), (by repeat (with_reducible first | exact Below.refl _ _ | refine bw_later ?_ _ | refine bw_alloc ?_ _ | refine bw_drew ?_ | refine bw_set ?_ (Nat.le_refl _) _ | refine bw_set ?_ ?_ _ | exact Nat.le_refl _ | exact later_size _ _ | refine Nat.le_trans ?_ (later_size _ _) | refine Nat.le_trans ?_ (size_alloc_le _ _) | refine Nat.le_trans ?_ (Nat.le_add_right _ _)))⟩
          | succ j =>
            go_wp2_with (first | ((with_reducible refine wp_region_later (by kernel_rfl) (by kernel_rfl) ?_); (repeat (go_big_quiet_step (fail))); refine wpQuiet_nil ?_; rintro _ ⟨xr, rfl⟩) | (go_at_call 52; (first | refine (l2Place_any _ _).onL ?_ | refine (l2Place_any _ _).on ?_); intro xq) | (go_at_call 45; (first | refine (in_any _ _ _ _).onL ?_ | refine (in_any _ _ _ _).on ?_); intro xq) | (go_at_call 43; (first | refine (l3Kind_any k _).onL ?_ | refine (l3Kind_any k _).on ?_); intro xq))
            go_ret
            exact ⟨ret_bool (by rw [hfin.out, chain_f (by rw [hl.out]; exact hlt) (chainAt_no hr.out (by simp [isDam, p0, p1]))]; rfl), (by repeat (with_reducible first | exact Below.refl _ _ | refine bw_later ?_ _ | refine bw_alloc ?_ _ | refine bw_drew ?_ | refine bw_set ?_ (Nat.le_refl _) _ | refine bw_set ?_ ?_ _ | exact Nat.le_refl _ | exact later_size _ _ | refine Nat.le_trans ?_ (later_size _ _) | refine Nat.le_trans ?_ (size_alloc_le _ _) | refine Nat.le_trans ?_ (Nat.le_add_right _ _)))⟩
        · cases p2 : inB r.c 1 k.c
          · cases m with
            | zero =>
              simp only [Nat.zero_mul, Nat.add_zero] at c0 c1 c2
              go_wp2_with (first | ((with_reducible refine wp_region_later (by kernel_rfl) (by kernel_rfl) ?_); (repeat (go_big_quiet_step (fail))); refine wpQuiet_nil ?_; rintro _ ⟨xr, rfl⟩) | (go_at_call 52; (first | refine (l2Place_any _ _).onL ?_ | refine (l2Place_any _ _).on ?_); intro xq) | (go_at_call 45; (first | refine (in_any _ _ _ _).onL ?_ | refine (in_any _ _ _ _).on ?_); intro xq) | (go_at_call 43; (first | refine (l3Kind_any k _).onL ?_ | refine (l3Kind_any k _).on ?_); intro xq))
              go_ret
              exact ⟨ret_bool (by rw [hfin.out, chain_f (by rw [hl.out]; exact hlt) (chainAt_no hr.out (by simp [isDam, p0, p1, p2]))]; rfl), (by repeat (with_reducible first | exact Below.refl _ _ | refine bw_later ?_ _ | refine bw_alloc ?_ _ | refine bw_drew ?_ | refine bw_set ?_ (Nat.le_refl _) _ | refine bw_set ?_ ?_ _ | exact Nat.le_refl _ | exact later_size _ _ | refine Nat.le_trans ?_ (later_size _ _) | refine Nat.le_trans ?_ (size_alloc_le _ _) | refine Nat.le_trans ?_ (Nat.le_add_right _ _)))⟩
            | succ j =>
              go_wp2_with (first | ((with_reducible refine wp_region_later (by kernel_rfl) (by kernel_rfl) ?_); (repeat (go_big_quiet_step (fail))); refine wpQuiet_nil ?_; rintro _ ⟨xr, rfl⟩) | (go_at_call 52; (first | refine (l2Place_any _ _).onL ?_ | refine (l2Place_any _ _).on ?_); intro xq) | (go_at_call 45; (first | refine (in_any _ _ _ _).onL ?_ | refine (in_any _ _ _ _).on ?_); intro xq) | (go_at_call 43; (first | refine (l3Kind_any k _).onL ?_ | refine (l3Kind_any k _).on ?_); intro xq))
              go_ret
              exact ⟨ret_bool (by rw [hfin.out, chain_f (by rw [hl.out]; exact hlt) (chainAt_no hr.out (by simp [isDam, p0, p1, p2]))]; rfl), (by repeat (with_reducible first | exact Below.refl _ _ | refine bw_later ?_ _ | refine bw_alloc ?_ _ | refine bw_drew ?_ | refine bw_set ?_ (Nat.le_refl _) _ | refine bw_set ?_ ?_ _ | exact Nat.le_refl _ | exact later_size _ _ | refine Nat.le_trans ?_ (later_size _ _) | refine Nat.le_trans ?_ (size_alloc_le _ _) | refine Nat.le_trans ?_ (Nat.le_add_right _ _)))⟩
          · cases m with
            | zero =>
              simp only [Nat.zero_mul, Nat.add_zero] at c0 c1 c2
              go_wp2_with (first | ((with_reducible refine wp_region_later (by kernel_rfl) (by kernel_rfl) ?_); (repeat (go_big_quiet_step (fail))); refine wpQuiet_nil ?_; rintro _ ⟨xr, rfl⟩) | (go_at_call 52; (first | refine (l2Place_any _ _).onL ?_ | refine (l2Place_any _ _).on ?_); intro xq) | (go_at_call 45; (first | refine (in_any _ _ _ _).onL ?_ | refine (in_any _ _ _ _).on ?_); intro xq) | (go_at_call 43; (first | refine (l3Kind_any k _).onL ?_ | refine (l3Kind_any k _).on ?_); intro xq))
              go_roundw
              case rel => exact ⟨1, (by repeat (with_reducible first | exact Below.refl _ _ | refine bw_later ?_ _ | refine bw_alloc ?_ _ | refine bw_drew ?_ | refine bw_set ?_ (Nat.le_refl _) _ | refine bw_set ?_ ?_ _ | exact Nat.le_refl _ | exact later_size _ _ | refine Nat.le_trans ?_ (later_size _ _) | refine Nat.le_trans ?_ (size_alloc_le _ _) | refine Nat.le_trans ?_ (Nat.le_add_right _ _))), by omega, by go_num, chain_step ha.out (chainAt_0 hr.out (by simp [isDam, p0, p1, p2]))⟩
              case measure => simp [intOf]; try omega
            | succ j =>
              obtain ⟨q, hq0⟩ := hs.at_ (k := j) (by omega)
              obtain ⟨d0, d1, d2⟩ := hs.2.2 j q hq0
              have hq := Lib.hid hq0
              clear hq0
              cases e1 : decide (r.a < q.a)
              · cases e2 : (q.a == r.a)
                · go_wp2_with (first | ((with_reducible refine wp_region_later (by kernel_rfl) (by kernel_rfl) ?_); (repeat (go_big_quiet_step (fail))); refine wpQuiet_nil ?_; rintro _ ⟨xr, rfl⟩) | (go_at_call 52; (first | refine (l2Place_any _ _).onL ?_ | refine (l2Place_any _ _).on ?_); intro xq) | (go_at_call 45; (first | refine (in_any _ _ _ _).onL ?_ | refine (in_any _ _ _ _).on ?_); intro xq) | (go_at_call 43; (first | refine (l3Kind_any k _).onL ?_ | refine (l3Kind_any k _).on ?_); intro xq))
                  go_roundw
                  case rel => exact ⟨j + 1 + 1, (by repeat (with_reducible first | exact Below.refl _ _ | refine bw_later ?_ _ | refine bw_alloc ?_ _ | refine bw_drew ?_ | refine bw_set ?_ (Nat.le_refl _) _ | refine bw_set ?_ ?_ _ | exact Nat.le_refl _ | exact later_size _ _ | refine Nat.le_trans ?_ (later_size _ _) | refine Nat.le_trans ?_ (size_alloc_le _ _) | refine Nat.le_trans ?_ (Nat.le_add_right _ _))), by omega, by go_num, chain_step ha.out ((chainAt_s hr.out hq.out (by simp [isDam, p0, p1, p2])).trans (dam_ok1 e1 e2))⟩
                  case measure => simp [intOf]; try omega
                · cases e3 : decide (r.b ≤ q.b)
                  · go_wp2_with (first | ((with_reducible refine wp_region_later (by kernel_rfl) (by kernel_rfl) ?_); (repeat (go_big_quiet_step (fail))); refine wpQuiet_nil ?_; rintro _ ⟨xr, rfl⟩) | (go_at_call 52; (first | refine (l2Place_any _ _).onL ?_ | refine (l2Place_any _ _).on ?_); intro xq) | (go_at_call 45; (first | refine (in_any _ _ _ _).onL ?_ | refine (in_any _ _ _ _).on ?_); intro xq) | (go_at_call 43; (first | refine (l3Kind_any k _).onL ?_ | refine (l3Kind_any k _).on ?_); intro xq))
                    go_roundw
                    case rel => exact ⟨j + 1 + 1, (by repeat (with_reducible first | exact Below.refl _ _ | refine bw_later ?_ _ | refine bw_alloc ?_ _ | refine bw_drew ?_ | refine bw_set ?_ (Nat.le_refl _) _ | refine bw_set ?_ ?_ _ | exact Nat.le_refl _ | exact later_size _ _ | refine Nat.le_trans ?_ (later_size _ _) | refine Nat.le_trans ?_ (size_alloc_le _ _) | refine Nat.le_trans ?_ (Nat.le_add_right _ _))), by omega, by go_num, chain_step ha.out ((chainAt_s hr.out hq.out (by simp [isDam, p0, p1, p2])).trans (dam_ok2 e2 e3))⟩
                    case measure => simp [intOf]; try omega
                  · go_wp2_with (first | ((with_reducible refine wp_region_later (by kernel_rfl) (by kernel_rfl) ?_); (repeat (go_big_quiet_step (fail))); refine wpQuiet_nil ?_; rintro _ ⟨xr, rfl⟩) | (go_at_call 52; (first | refine (l2Place_any _ _).onL ?_ | refine (l2Place_any _ _).on ?_); intro xq) | (go_at_call 45; (first | refine (in_any _ _ _ _).onL ?_ | refine (in_any _ _ _ _).on ?_); intro xq) | (go_at_call 43; (first | refine (l3Kind_any k _).onL ?_ | refine (l3Kind_any k _).on ?_); intro xq))
                    go_ret
                    exact ⟨ret_bool (by rw [hfin.out, chain_f (by rw [hl.out]; exact hlt) ((chainAt_s hr.out hq.out (by simp [isDam, p0, p1, p2])).trans (dam_no2 e2 e3))]; rfl), (by repeat (with_reducible first | exact Below.refl _ _ | refine bw_later ?_ _ | refine bw_alloc ?_ _ | refine bw_drew ?_ | refine bw_set ?_ (Nat.le_refl _) _ | refine bw_set ?_ ?_ _ | exact Nat.le_refl _ | exact later_size _ _ | refine Nat.le_trans ?_ (later_size _ _) | refine Nat.le_trans ?_ (size_alloc_le _ _) | refine Nat.le_trans ?_ (Nat.le_add_right _ _)))⟩
              · go_wp2_with (first | ((with_reducible refine wp_region_later (by kernel_rfl) (by kernel_rfl) ?_); (repeat (go_big_quiet_step (fail))); refine wpQuiet_nil ?_; rintro _ ⟨xr, rfl⟩) | (go_at_call 52; (first | refine (l2Place_any _ _).onL ?_ | refine (l2Place_any _ _).on ?_); intro xq) | (go_at_call 45; (first | refine (in_any _ _ _ _).onL ?_ | refine (in_any _ _ _ _).on ?_); intro xq) | (go_at_call 43; (first | refine (l3Kind_any k _).onL ?_ | refine (l3Kind_any k _).on ?_); intro xq))
                go_ret
                exact ⟨ret_bool (by rw [hfin.out, chain_f (by rw [hl.out]; exact hlt) ((chainAt_s hr.out hq.out (by simp [isDam, p0, p1, p2])).trans (dam_no1 e1))]; rfl), (by repeat (with_reducible first | exact Below.refl _ _ | refine bw_later ?_ _ | refine bw_alloc ?_ _ | refine bw_drew ?_ | refine bw_set ?_ (Nat.le_refl _) _ | refine bw_set ?_ ?_ _ | exact Nat.le_refl _ | exact later_size _ _ | refine Nat.le_trans ?_ (later_size _ _) | refine Nat.le_trans ?_ (size_alloc_le _ _) | refine Nat.le_trans ?_ (Nat.le_add_right _ _)))⟩
    · obtain rfl : m = n := by omega
      go_wp2_with (first | ((with_reducible refine wp_region_later (by kernel_rfl) (by kernel_rfl) ?_); (repeat (go_big_quiet_step (fail))); refine wpQuiet_nil ?_; rintro _ ⟨xr, rfl⟩) | (go_at_call 52; (first | refine (l2Place_any _ _).onL ?_ | refine (l2Place_any _ _).on ?_); intro xq) | (go_at_call 45; (first | refine (in_any _ _ _ _).onL ?_ | refine (in_any _ _ _ _).on ?_); intro xq) | (go_at_call 43; (first | refine (l3Kind_any k _).onL ?_ | refine (l3Kind_any k _).on ?_); intro xq))
      all_goals (go_ret; exact ⟨ret_bool (by rw [hfin.out, chain_t (fun i hi => ha.out i (by have := hl.out; omega))]; simp; try omega), (by repeat (with_reducible first | exact Below.refl _ _ | refine bw_later ?_ _ | refine bw_alloc ?_ _ | refine bw_drew ?_ | refine bw_set ?_ (Nat.le_refl _) _ | refine bw_set ?_ ?_ _ | exact Nat.le_refl _ | exact later_size _ _ | refine Nat.le_trans ?_ (later_size _ _) | refine Nat.le_trans ?_ (size_alloc_le _ _) | refine Nat.le_trans ?_ (Nat.le_add_right _ _)))⟩)
set_option maxHeartbeats 1000000 in
theorem l3Good_f (k : R5) (g off n c : Nat) (xs : List R3) (w : World) (hs : SR3 w g off n xs) (hn : n ≤ 1048576) (hk : isKind k = false) : Gv Try.prog 48 #[k.v, .slice (some ⟨g, off, none⟩) n c] w (.bool (okDam k xs)) := by
  unfold Gv
  have hl := Lib.hid hs.2.1
  have hg := hs.1
  have hfin : okDam k xs = false := by simp [okDam, hk]
  rw [hfin]
  clear hfin
  unfold R5.v
  go_enter Try.func48, Try.ntmps48
  go_wp2
  go_loopw [5] (fun i wr => ∃ m : Nat, Below (w.alloc (.cells #[.int .i64 k.a, .int .i64 k.b, .int .i64 k.c, .int .i64 k.d, .int .i64 k.e] 25)).heap.size (w.alloc (.cells #[.int .i64 k.a, .int .i64 k.b, .int .i64 k.c, .int .i64 k.d, .int .i64 k.e] 25)) wr ∧ m ≤ n ∧ i = .int .i64 (m : Int)) (fun i _ => n - (intOf i).toNat)
  case atStart => exact ⟨0, (by repeat (with_reducible first | exact Below.refl _ _ | refine bw_later ?_ _ | refine bw_alloc ?_ _ | refine bw_drew ?_ | refine bw_set ?_ (Nat.le_refl _) _ | refine bw_set ?_ ?_ _ | exact Nat.le_refl _ | exact later_size _ _ | refine Nat.le_trans ?_ (later_size _ _) | refine Nat.le_trans ?_ (size_alloc_le _ _) | refine Nat.le_trans ?_ (Nat.le_add_right _ _))), by omega, rfl⟩
  case round =>
    obtain ⟨m, hb, hm, rfl⟩ := hrel
    obtain ⟨y, rfl⟩ := exists_later hb
    clear hb
    have hgy := lt_later _ y g (by simp; omega)
    have hky := lt_later _ y w.heap.size (by simp)
    by_cases hlt : m < n
    · obtain ⟨r, hr0⟩ := hs.at_ hlt
      obtain ⟨c0, c1, c2⟩ := hs.2.2 m r hr0
      have hr := Lib.hid hr0
      clear hr0
      cases p0 : inB r.a 0 3000
      · cases m with
        | zero =>
          simp only [Nat.zero_mul, Nat.add_zero] at c0 c1 c2
          go_wp2_with (first | ((with_reducible refine wp_region_later (by kernel_rfl) (by kernel_rfl) ?_); (repeat (go_big_quiet_step (fail))); refine wpQuiet_nil ?_; rintro _ ⟨xr, rfl⟩) | (go_at_call 52; (first | refine (l2Place_any _ _).onL ?_ | refine (l2Place_any _ _).on ?_); intro xq) | (go_at_call 45; (first | refine (in_any _ _ _ _).onL ?_ | refine (in_any _ _ _ _).on ?_); intro xq) | (go_at_call 43; (first | refine (l3Kind_any k _).onL ?_ | refine (l3Kind_any k _).on ?_); intro xq))
          go_ret
          exact ⟨rfl, (by repeat (with_reducible first | exact Below.refl _ _ | refine bw_later ?_ _ | refine bw_alloc ?_ _ | refine bw_drew ?_ | refine bw_set ?_ (Nat.le_refl _) _ | refine bw_set ?_ ?_ _ | exact Nat.le_refl _ | exact later_size _ _ | refine Nat.le_trans ?_ (later_size _ _) | refine Nat.le_trans ?_ (size_alloc_le _ _) | refine Nat.le_trans ?_ (Nat.le_add_right _ _)))⟩
        | succ j =>
          go_wp2_with (first | ((with_reducible refine wp_region_later (by kernel_rfl) (by kernel_rfl) ?_); (repeat (go_big_quiet_step (fail))); refine wpQuiet_nil ?_; rintro _ ⟨xr, rfl⟩) | (go_at_call 52; (first | refine (l2Place_any _ _).onL ?_ | refine (l2Place_any _ _).on ?_); intro xq) | (go_at_call 45; (first | refine (in_any _ _ _ _).onL ?_ | refine (in_any _ _ _ _).on ?_); intro xq) | (go_at_call 43; (first | refine (l3Kind_any k _).onL ?_ | refine (l3Kind_any k _).on ?_); intro xq))
          go_ret
          exact ⟨rfl, (by repeat (with_reducible first | exact Below.refl _ _ | refine bw_later ?_ _ | refine bw_alloc ?_ _ | refine bw_drew ?_ | refine bw_set ?_ (Nat.le_refl _) _ | refine bw_set ?_ ?_ _ | exact Nat.le_refl _ | exact later_size _ _ | refine Nat.le_trans ?_ (later_size _ _) | refine Nat.le_trans ?_ (size_alloc_le _ _) | refine Nat.le_trans ?_ (Nat.le_add_right _ _)))⟩
      · cases p1 : inB r.b 0 (wrap64 (k.b - 1))
        · cases m with
          | zero =>
            simp only [Nat.zero_mul, Nat.add_zero] at c0 c1 c2
            go_wp2_with (first | ((with_reducible refine wp_region_later (by kernel_rfl) (by kernel_rfl) ?_); (repeat (go_big_quiet_step (fail))); refine wpQuiet_nil ?_; rintro _ ⟨xr, rfl⟩) | (go_at_call 52; (first | refine (l2Place_any _ _).onL ?_ | refine (l2Place_any _ _).on ?_); intro xq) | (go_at_call 45; (first | refine (in_any _ _ _ _).onL ?_ | refine (in_any _ _ _ _).on ?_); intro xq) | (go_at_call 43; (first | refine (l3Kind_any k _).onL ?_ | refine (l3Kind_any k _).on ?_); intro xq))
            go_ret
            exact ⟨rfl, (by repeat (with_reducible first | exact Below.refl _ _ | refine bw_later ?_ _ | refine bw_alloc ?_ _ | refine bw_drew ?_ | refine bw_set ?_ (Nat.le_refl _) _ | refine bw_set ?_ ?_ _ | exact Nat.le_refl _ | exact later_size _ _ | refine Nat.le_trans ?_ (later_size _ _) | refine Nat.le_trans ?_ (size_alloc_le _ _) | refine Nat.le_trans ?_ (Nat.le_add_right _ _)))⟩
          | succ j =>
            go_wp2_with (first | ((with_reducible refine wp_region_later (by kernel_rfl) (by kernel_rfl) ?_); (repeat (go_big_quiet_step (fail))); refine wpQuiet_nil ?_; rintro _ ⟨xr, rfl⟩) | (go_at_call 52; (first | refine (l2Place_any _ _).onL ?_ | refine (l2Place_any _ _).on ?_); intro xq) | (go_at_call 45; (first | refine (in_any _ _ _ _).onL ?_ | refine (in_any _ _ _ _).on ?_); intro xq) | (go_at_call 43; (first | refine (l3Kind_any k _).onL ?_ | refine (l3Kind_any k _).on ?_); intro xq))
            go_ret
            exact ⟨rfl, (by repeat (with_reducible first | exact Below.refl _ _ | refine bw_later ?_ _ | refine bw_alloc ?_ _ | refine bw_drew ?_ | refine bw_set ?_ (Nat.le_refl _) _ | refine bw_set ?_ ?_ _ | exact Nat.le_refl _ | exact later_size _ _ | refine Nat.le_trans ?_ (later_size _ _) | refine Nat.le_trans ?_ (size_alloc_le _ _) | refine Nat.le_trans ?_ (Nat.le_add_right _ _)))⟩
        · cases p2 : inB r.c 1 k.c
          · cases m with
            | zero =>
              simp only [Nat.zero_mul, Nat.add_zero] at c0 c1 c2
              go_wp2_with (first | ((with_reducible refine wp_region_later (by kernel_rfl) (by kernel_rfl) ?_); (repeat (go_big_quiet_step (fail))); refine wpQuiet_nil ?_; rintro _ ⟨xr, rfl⟩) | (go_at_call 52; (first | refine (l2Place_any _ _).onL ?_ | refine (l2Place_any _ _).on ?_); intro xq) | (go_at_call 45; (first | refine (in_any _ _ _ _).onL ?_ | refine (in_any _ _ _ _).on ?_); intro xq) | (go_at_call 43; (first | refine (l3Kind_any k _).onL ?_ | refine (l3Kind_any k _).on ?_); intro xq))
              go_ret
              exact ⟨rfl, (by repeat (with_reducible first | exact Below.refl _ _ | refine bw_later ?_ _ | refine bw_alloc ?_ _ | refine bw_drew ?_ | refine bw_set ?_ (Nat.le_refl _) _ | refine bw_set ?_ ?_ _ | exact Nat.le_refl _ | exact later_size _ _ | refine Nat.le_trans ?_ (later_size _ _) | refine Nat.le_trans ?_ (size_alloc_le _ _) | refine Nat.le_trans ?_ (Nat.le_add_right _ _)))⟩
            | succ j =>
              go_wp2_with (first | ((with_reducible refine wp_region_later (by kernel_rfl) (by kernel_rfl) ?_); (repeat (go_big_quiet_step (fail))); refine wpQuiet_nil ?_; rintro _ ⟨xr, rfl⟩) | (go_at_call 52; (first | refine (l2Place_any _ _).onL ?_ | refine (l2Place_any _ _).on ?_); intro xq) | (go_at_call 45; (first | refine (in_any _ _ _ _).onL ?_ | refine (in_any _ _ _ _).on ?_); intro xq) | (go_at_call 43; (first | refine (l3Kind_any k _).onL ?_ | refine (l3Kind_any k _).on ?_); intro xq))
              go_ret
              exact ⟨rfl, (by repeat (with_reducible first | exact Below.refl _ _ | refine bw_later ?_ _ | refine bw_alloc ?_ _ | refine bw_drew ?_ | refine bw_set ?_ (Nat.le_refl _) _ | refine bw_set ?_ ?_ _ | exact Nat.le_refl _ | exact later_size _ _ | refine Nat.le_trans ?_ (later_size _ _) | refine Nat.le_trans ?_ (size_alloc_le _ _) | refine Nat.le_trans ?_ (Nat.le_add_right _ _)))⟩
          · cases m with
            | zero =>
              simp only [Nat.zero_mul, Nat.add_zero] at c0 c1 c2
              go_wp2_with (first | ((with_reducible refine wp_region_later (by kernel_rfl) (by kernel_rfl) ?_); (repeat (go_big_quiet_step (fail))); refine wpQuiet_nil ?_; rintro _ ⟨xr, rfl⟩) | (go_at_call 52; (first | refine (l2Place_any _ _).onL ?_ | refine (l2Place_any _ _).on ?_); intro xq) | (go_at_call 45; (first | refine (in_any _ _ _ _).onL ?_ | refine (in_any _ _ _ _).on ?_); intro xq) | (go_at_call 43; (first | refine (l3Kind_any k _).onL ?_ | refine (l3Kind_any k _).on ?_); intro xq))
              go_roundw
              case rel => exact ⟨1, (by repeat (with_reducible first | exact Below.refl _ _ | refine bw_later ?_ _ | refine bw_alloc ?_ _ | refine bw_drew ?_ | refine bw_set ?_ (Nat.le_refl _) _ | refine bw_set ?_ ?_ _ | exact Nat.le_refl _ | exact later_size _ _ | refine Nat.le_trans ?_ (later_size _ _) | refine Nat.le_trans ?_ (size_alloc_le _ _) | refine Nat.le_trans ?_ (Nat.le_add_right _ _))), by omega, by go_num⟩
              case measure => simp [intOf]; try omega
            | succ j =>
              obtain ⟨q, hq0⟩ := hs.at_ (k := j) (by omega)
              obtain ⟨d0, d1, d2⟩ := hs.2.2 j q hq0
              have hq := Lib.hid hq0
              clear hq0
              cases e1 : decide (r.a < q.a)
              · cases e2 : (q.a == r.a)
                · go_wp2_with (first | ((with_reducible refine wp_region_later (by kernel_rfl) (by kernel_rfl) ?_); (repeat (go_big_quiet_step (fail))); refine wpQuiet_nil ?_; rintro _ ⟨xr, rfl⟩) | (go_at_call 52; (first | refine (l2Place_any _ _).onL ?_ | refine (l2Place_any _ _).on ?_); intro xq) | (go_at_call 45; (first | refine (in_any _ _ _ _).onL ?_ | refine (in_any _ _ _ _).on ?_); intro xq) | (go_at_call 43; (first | refine (l3Kind_any k _).onL ?_ | refine (l3Kind_any k _).on ?_); intro xq))
                  go_roundw
                  case rel => exact ⟨j + 1 + 1, (by repeat (with_reducible first | exact Below.refl _ _ | refine bw_later ?_ _ | refine bw_alloc ?_ _ | refine bw_drew ?_ | refine bw_set ?_ (Nat.le_refl _) _ | refine bw_set ?_ ?_ _ | exact Nat.le_refl _ | exact later_size _ _ | refine Nat.le_trans ?_ (later_size _ _) | refine Nat.le_trans ?_ (size_alloc_le _ _) | refine Nat.le_trans ?_ (Nat.le_add_right _ _))), by omega, by go_num⟩
                  case measure => simp [intOf]; try omega
                · cases e3 : decide (r.b ≤ q.b)
                  · go_wp2_with (first | ((with_reducible refine wp_region_later (by kernel_rfl) (by kernel_rfl) ?_); (repeat (go_big_quiet_step (fail))); refine wpQuiet_nil ?_; rintro _ ⟨xr, rfl⟩) | (go_at_call 52; (first | refine (l2Place_any _ _).onL ?_ | refine (l2Place_any _ _).on ?_); intro xq) | (go_at_call 45; (first | refine (in_any _ _ _ _).onL ?_ | refine (in_any _ _ _ _).on ?_); intro xq) | (go_at_call 43; (first | refine (l3Kind_any k _).onL ?_ | refine (l3Kind_any k _).on ?_); intro xq))
                    go_roundw
                    case rel => exact ⟨j + 1 + 1, (by repeat (with_reducible first | exact Below.refl _ _ | refine bw_later ?_ _ | refine bw_alloc ?_ _ | refine bw_drew ?_ | refine bw_set ?_ (Nat.le_refl _) _ | refine bw_set ?_ ?_ _ | exact Nat.le_refl _ | exact later_size _ _ | refine Nat.le_trans ?_ (later_size _ _) | refine Nat.le_trans ?_ (size_alloc_le _ _) | refine Nat.le_trans ?_ (Nat.le_add_right _ _))), by omega, by go_num⟩
                    case measure => simp [intOf]; try omega
                  · go_wp2_with (first | ((with_reducible refine wp_region_later (by kernel_rfl) (by kernel_rfl) ?_); (repeat (go_big_quiet_step (fail))); refine wpQuiet_nil ?_; rintro _ ⟨xr, rfl⟩) | (go_at_call 52; (first | refine (l2Place_any _ _).onL ?_ | refine (l2Place_any _ _).on ?_); intro xq) | (go_at_call 45; (first | refine (in_any _ _ _ _).onL ?_ | refine (in_any _ _ _ _).on ?_); intro xq) | (go_at_call 43; (first | refine (l3Kind_any k _).onL ?_ | refine (l3Kind_any k _).on ?_); intro xq))
                    go_ret
                    exact ⟨rfl, (by repeat (with_reducible first | exact Below.refl _ _ | refine bw_later ?_ _ | refine bw_alloc ?_ _ | refine bw_drew ?_ | refine bw_set ?_ (Nat.le_refl _) _ | refine bw_set ?_ ?_ _ | exact Nat.le_refl _ | exact later_size _ _ | refine Nat.le_trans ?_ (later_size _ _) | refine Nat.le_trans ?_ (size_alloc_le _ _) | refine Nat.le_trans ?_ (Nat.le_add_right _ _)))⟩
              · go_wp2_with (first | ((with_reducible refine wp_region_later (by kernel_rfl) (by kernel_rfl) ?_); (repeat (go_big_quiet_step (fail))); refine wpQuiet_nil ?_; rintro _ ⟨xr, rfl⟩) | (go_at_call 52; (first | refine (l2Place_any _ _).onL ?_ | refine (l2Place_any _ _).on ?_); intro xq) | (go_at_call 45; (first | refine (in_any _ _ _ _).onL ?_ | refine (in_any _ _ _ _).on ?_); intro xq) | (go_at_call 43; (first | refine (l3Kind_any k _).onL ?_ | refine (l3Kind_any k _).on ?_); intro xq))
                go_ret
                exact ⟨rfl, (by repeat (with_reducible first | exact Below.refl _ _ | refine bw_later ?_ _ | refine bw_alloc ?_ _ | refine bw_drew ?_ | refine bw_set ?_ (Nat.le_refl _) _ | refine bw_set ?_ ?_ _ | exact Nat.le_refl _ | exact later_size _ _ | refine Nat.le_trans ?_ (later_size _ _) | refine Nat.le_trans ?_ (size_alloc_le _ _) | refine Nat.le_trans ?_ (Nat.le_add_right _ _)))⟩
    · obtain rfl : m = n := by omega
      go_wp2_with (first | ((with_reducible refine wp_region_later (by kernel_rfl) (by kernel_rfl) ?_); (repeat (go_big_quiet_step (fail))); refine wpQuiet_nil ?_; rintro _ ⟨xr, rfl⟩) | (go_at_call 52; (first | refine (l2Place_any _ _).onL ?_ | refine (l2Place_any _ _).on ?_); intro xq) | (go_at_call 45; (first | refine (in_any _ _ _ _).onL ?_ | refine (in_any _ _ _ _).on ?_); intro xq) | (go_at_call 43; (first | refine (l3Kind_any k _).onL ?_ | refine (l3Kind_any k _).on ?_); intro xq))
      all_goals (go_ret; exact ⟨rfl, (by repeat (with_reducible first | exact Below.refl _ _ | refine bw_later ?_ _ | refine bw_alloc ?_ _ | refine bw_drew ?_ | refine bw_set ?_ (Nat.le_refl _) _ | refine bw_set ?_ ?_ _ | exact Nat.le_refl _ | exact later_size _ _ | refine Nat.le_trans ?_ (later_size _ _) | refine Nat.le_trans ?_ (size_alloc_le _ _) | refine Nat.le_trans ?_ (Nat.le_add_right _ _)))⟩)
theorem l3Good_any (k : R5) (g off n c : Nat) (xs : List R3) (w : World) (hs : SR3 w g off n xs) (hn : n ≤ 1048576) : Gv Try.prog 48 #[k.v, .slice (some ⟨g, off, none⟩) n c] w (.bool (okDam k xs)) := by
  cases hk : isKind k
  · exact l3Good_f k g off n c xs w hs hn hk
  · exact l3Good_t k g off n c xs w hs hn hk
end Go.Proofs.Ytagplkdeallbmaa
