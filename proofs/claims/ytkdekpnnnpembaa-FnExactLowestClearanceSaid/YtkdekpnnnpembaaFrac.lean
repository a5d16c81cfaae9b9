/- Fractions in lowest terms: the program's walks and the reference's. -/
import Derived.Test.YtkdekpnnnpembaaWithin
import Derived.Test.YtkdekpnnnpembaaFracPlain
import Derived.WalkLawsBesides
namespace Go.Proofs.Ytkdekpnnnpembaa
open Go.RowKit
def most (a b : Int) : Int := if a > b then a else b
theorem most_any (a b : Int) (w : World) : Gv Try.prog 48 #[.int .i64 a, .int .i64 b] w (.int .i64 (most a b)) := by
  unfold Gv most
  by_cases h : b < a
  all_goals
    go_enter Try.func48, Try.ntmps48
    go_wp2
    go_ret
    exact ⟨ret_int (by first | rfl | (rw [if_pos h]; rfl) | (rw [if_neg (by omega)]; rfl)), (by repeat (with_reducible first | exact Below.refl _ _ | refine bw_later ?_ _ | refine bw_alloc ?_ _ | refine bw_drew ?_ | refine bw_set ?_ (Nat.le_refl _) _ | refine bw_set ?_ ?_ _ | exact Nat.le_refl _ | exact later_size _ _ | refine Nat.le_trans ?_ (later_size _ _) | refine Nat.le_trans ?_ (size_alloc_le _ _) | refine Nat.le_trans ?_ (Nat.le_add_right _ _)))⟩
theorem most_abs (n : Int) : most n (-n) = (n.natAbs : Int) := by unfold most; split <;> omega
theorem divisor_any (n d : Int) (hd : 1 ≤ d) (hd2 : d ≤ 4611686018427387904) (h1 : -4611686018427387904 ≤ n) (h2 : n ≤ 4611686018427387904) (w : World) : Gv Try.prog 62 #[.int .i64 n, .int .i64 d] w (.int .i64 (gcdI n d)) := by
  unfold Gv
  go_enter Try.func62, Try.ntmps62
  go_wp2
  go_loopw [0, 1] (fun s t wr => ∃ a b : Int, Below w.heap.size w wr ∧ s = .int .i64 a ∧ t = .int .i64 b ∧ (-4611686018427387904 ≤ a ∧ a ≤ 4611686018427387904) ∧ (-4611686018427387904 ≤ b ∧ b ≤ 4611686018427387904) ∧ Hid (gcdI a b = gcdI n d)) (fun _ t _ => (intOf t).natAbs)
  case atStart => exact ⟨n, d, Below.refl _ _, rfl, rfl, ⟨h1, h2⟩, ⟨by omega, hd2⟩, rfl⟩
  case round =>
    obtain ⟨a, b, hb, rfl, rfl, ⟨a1, a2⟩, ⟨b1, b2⟩, hg⟩ := hrel
    obtain ⟨y, rfl⟩ := exists_later hb
    clear hb
    by_cases hz : b = 0
    · subst hz
      go_wp2
      all_goals (go_ret; exact ⟨ret_int (by rw [← hg.out, gcdI_zero]; first | omega | (show a = _; omega) | (show -a = _; omega)), (by repeat (with_reducible first | exact Below.refl _ _ | refine bw_later ?_ _ | refine bw_alloc ?_ _ | refine bw_drew ?_ | refine bw_set ?_ (Nat.le_refl _) _ | refine bw_set ?_ ?_ _ | exact Nat.le_refl _ | exact later_size _ _ | refine Nat.le_trans ?_ (later_size _ _) | refine Nat.le_trans ?_ (size_alloc_le _ _) | refine Nat.le_trans ?_ (Nat.le_add_right _ _)))⟩)
    · have hz' : (b == 0) = false := by simpa using hz
      have hz2 : (b != 0) = true := by simpa using hz
      have hm := tmod_lt a b hz
      have Hm := Lib.hid hm
      go_wp2_with ((with_reducible refine wp_region_later (by kernel_rfl) (by kernel_rfl) ?_); (repeat (go_big_quiet_step (fail))); refine wpQuiet_nil ?_; rintro _ ⟨xr, rfl⟩)
      go_roundw
      case rel => exact ⟨b, a.tmod b, (by repeat (with_reducible first | exact Below.refl _ _ | refine bw_later ?_ _ | refine bw_alloc ?_ _ | refine bw_drew ?_ | refine bw_set ?_ (Nat.le_refl _) _ | refine bw_set ?_ ?_ _ | exact Nat.le_refl _ | exact later_size _ _ | refine Nat.le_trans ?_ (later_size _ _) | refine Nat.le_trans ?_ (size_alloc_le _ _) | refine Nat.le_trans ?_ (Nat.le_add_right _ _))), rfl, rfl, ⟨b1, b2⟩, ⟨by omega, by omega⟩, by show gcdI b (a.tmod b) = gcdI n d; rw [← hg.out]; unfold gcdI; rw [gcd_tmod]⟩
      case measure => have := Hm.out; simp only [intOf]; first | exact this | (simp; exact this) | (simp [intOf]; omega)
theorem lowest_any (n d : Int) (hd : 1 ≤ d) (hd2 : d ≤ 4611686018427387904) (h1 : -4611686018427387904 ≤ n) (h2 : n ≤ 4611686018427387904) (w : World) : Gv Try.prog 52 #[.int .i64 n, .int .i64 d] w (.agg #[.int .i64 (redN n d), .int .i64 (redD n d)]) := by
  unfold Gv redN redD
  obtain ⟨g1, g2⟩ := gcdI_pos (n := n) hd
  have hz0 : ¬ gcdI n d = 0 := by omega
  have hz1 : (gcdI n d == 0) = false := by simpa using hz0
  go_enter Try.func52, Try.ntmps52
  go_wp2_with (first | (go_at_call 62; (first | refine (divisor_any n d hd hd2 h1 h2 _).onL ?_ | refine (divisor_any n d hd hd2 h1 h2 _).on ?_); intro xq) | ((first | (with_reducible refine wp_region_tailL 7 (by kernel_rfl) (by kernel_rfl) ?_; intro yt hyt0; have hyt := Lib.hid hyt0; clear hyt0) | with_reducible refine wp_region_tail 7 (by kernel_rfl) (by kernel_rfl) ?_); simp only [List.take_succ_cons, List.take_zero, List.drop_succ_cons, List.drop_zero]; (repeat (first | fail | still_step | (refine wpStill_step (fun K hK => ?_); go_simp; (try go_bits); (try go_simp); refine hK _ ?_; clear hK K))); refine wpStill_nil ?_))
  exact bodyPost_ret (by simp [results, Try.results52, go_sem]) rfl ⟨rfl, (by repeat (with_reducible first | exact Below.refl _ _ | refine bw_later ?_ _ | refine bw_alloc ?_ _ | refine bw_drew ?_ | refine bw_set ?_ (Nat.le_refl _) _ | refine bw_set ?_ ?_ _ | exact Nat.le_refl _ | exact later_size _ _ | refine Nat.le_trans ?_ (later_size _ _) | refine Nat.le_trans ?_ (size_alloc_le _ _) | refine Nat.le_trans ?_ (Nat.le_add_right _ _)))⟩
theorem reduce_any (n d : Int) (hd : 1 ≤ d) (hd2 : d ≤ 4611686018427387904) (h1 : -4611686018427387904 ≤ n) (h2 : n ≤ 4611686018427387904) (w : World) : Gv Try.prog 51 #[.int .i64 n, .int .i64 d] w (.tuple #[.int .i64 (redN n d), .int .i64 (redD n d)]) := by
  unfold Gv redN redD
  obtain ⟨g1, g2⟩ := gcdI_pos (n := n) hd
  have m1 : 0 ≤ most n (-n) ∧ most n (-n) ≤ 4611686018427387904 := by rw [most_abs]; omega
  have m2 : Hid (gcdI (most n (-n)) d = gcdI n d) := by show gcdI (most n (-n)) d = gcdI n d; rw [most_abs]; simp [gcdI, Int.gcd]
  obtain ⟨m3, m4⟩ := m1
  go_enter Try.func51, Try.ntmps51
  go_wp2_with (first | (go_at_call 48; (first | refine (most_any _ _ _).onL ?_ | refine (most_any _ _ _).on ?_); intro xq) | ((with_reducible refine wp_region_later (by kernel_rfl) (by kernel_rfl) ?_); (repeat (go_big_quiet_step ((go_at_call 48; exact (most_any _ _ _).quiet)))); refine wpQuiet_nil ?_; rintro _ ⟨xr, rfl⟩))
  go_loopw [6, 7] (fun s t wr => ∃ a b : Int, Below w.heap.size w wr ∧ s = .int .i64 a ∧ t = .int .i64 b ∧ (0 ≤ a ∧ a ≤ 4611686018427387904) ∧ (0 ≤ b ∧ b ≤ 4611686018427387904) ∧ Hid (gcdI a b = gcdI n d)) (fun _ t _ => (intOf t).natAbs)
  case atStart => exact ⟨_, d, (by repeat (with_reducible first | exact Below.refl _ _ | refine bw_later ?_ _ | refine bw_alloc ?_ _ | refine bw_drew ?_ | refine bw_set ?_ (Nat.le_refl _) _ | refine bw_set ?_ ?_ _ | exact Nat.le_refl _ | exact later_size _ _ | refine Nat.le_trans ?_ (later_size _ _) | refine Nat.le_trans ?_ (size_alloc_le _ _) | refine Nat.le_trans ?_ (Nat.le_add_right _ _))), rfl, rfl, ⟨m3, m4⟩, ⟨by omega, hd2⟩, m2⟩
  case round =>
    obtain ⟨a, b, hb, rfl, rfl, ⟨a1, a2⟩, ⟨b1, b2⟩, hg⟩ := hrel
    obtain ⟨y, rfl⟩ := exists_later hb
    clear hb
    by_cases hz : b = 0
    · subst hz
      have ha : Hid (a = gcdI n d) := by show a = gcdI n d; rw [← hg.out, gcdI_zero]; omega
      have ha1 : 1 ≤ a := by rw [ha.out]; exact g1
      go_wp2_with ((with_reducible refine wp_region_later (by kernel_rfl) (by kernel_rfl) ?_); (repeat (go_big_quiet_step (fail))); refine wpQuiet_nil ?_; rintro _ ⟨xr, rfl⟩)
      go_ret2
      exact ⟨by first | rfl | (rw [ha.out]; rfl), (by repeat (with_reducible first | exact Below.refl _ _ | refine bw_later ?_ _ | refine bw_alloc ?_ _ | refine bw_drew ?_ | refine bw_set ?_ (Nat.le_refl _) _ | refine bw_set ?_ ?_ _ | exact Nat.le_refl _ | exact later_size _ _ | refine Nat.le_trans ?_ (later_size _ _) | refine Nat.le_trans ?_ (size_alloc_le _ _) | refine Nat.le_trans ?_ (Nat.le_add_right _ _)))⟩
    · have hz' : (b == 0) = false := by simpa using hz
      have hz2 : (b != 0) = true := by simpa using hz
      have hm : 0 ≤ a % b ∧ a % b < b := ⟨Int.emod_nonneg _ hz, Int.emod_lt_of_pos _ (by omega)⟩
      obtain ⟨hm1, hm2⟩ := hm
      go_wp2
      go_roundw
      case rel => exact ⟨b, a % b, (by repeat (with_reducible first | exact Below.refl _ _ | refine bw_later ?_ _ | refine bw_alloc ?_ _ | refine bw_drew ?_ | refine bw_set ?_ (Nat.le_refl _) _ | refine bw_set ?_ ?_ _ | exact Nat.le_refl _ | exact later_size _ _ | refine Nat.le_trans ?_ (later_size _ _) | refine Nat.le_trans ?_ (size_alloc_le _ _) | refine Nat.le_trans ?_ (Nat.le_add_right _ _))), rfl, rfl, ⟨b1, b2⟩, ⟨by omega, by omega⟩, by show gcdI b (a % b) = gcdI n d; rw [← hg.out]; unfold gcdI; rw [gcd_emod a1]⟩
      case measure => simp [intOf]; omega
end Go.Proofs.Ytkdekpnnnpembaa
