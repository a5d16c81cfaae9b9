/- The comparison of two fractions. -/
import Derived.Test.YtkdekpnnnpembaaSpan
import Derived.Test.YtkdekpnnnpembaaFrac
import Derived.Shelf.Bits.Mul64
namespace Go.Proofs.Ytkdekpnnnpembaa
open Go.RowKit Go.Lib
set_option maxHeartbeats 1000000 in
theorem mul64_any (x y : Nat) (hx : x < 18446744073709551616) (hy : y < 18446744073709551616) (w : World) : Gv Try.prog 68 #[.int .u64 x, .int .u64 y] w (.tuple #[.int .u64 ((x * y / 18446744073709551616 : Nat) : Int), .int .u64 ((x * y % 18446744073709551616 : Nat) : Int)]) := by
  unfold Gv
  obtain ⟨bd, bt, bw, hhi⟩ := Lib.mul64_hi x y hx hy
  have ba := Lib.half_mul_le (a := x / 4294967296) (b := y / 4294967296) (by omega) (by omega)
  have bb := Lib.half_mul_le (a := x / 4294967296) (b := y % 4294967296) (by omega) (by omega)
  have bc := Lib.half_mul_le (a := x % 4294967296) (b := y / 4294967296) (by omega) (by omega)
  have ba' : x / 4294967296 * (y / 4294967296) < 18446744073709551616 := by omega
  have bb' : x / 4294967296 * (y % 4294967296) < 18446744073709551616 := by omega
  have bc' : x % 4294967296 * (y / 4294967296) < 18446744073709551616 := by omega
  have bh1 : x / 4294967296 * (y / 4294967296) + (x / 4294967296 * (y % 4294967296) + x % 4294967296 * (y % 4294967296) / 4294967296) / 4294967296 < 18446744073709551616 := by omega
  have bh : x / 4294967296 * (y / 4294967296) + (x / 4294967296 * (y % 4294967296) + x % 4294967296 * (y % 4294967296) / 4294967296) / 4294967296 + ((x / 4294967296 * (y % 4294967296) + x % 4294967296 * (y % 4294967296) / 4294967296) % 4294967296 + x % 4294967296 * (y / 4294967296)) / 4294967296 < 18446744073709551616 := by omega
  go_enter Try.func68, Try.ntmps68
  go_wp2
  simp only [Mul64.maskN x hx, Mul64.maskN y hy, Mul64.divN, Mul64.mulN, Mul64.addN, Mul64.wrapN _ bd, Mul64.wrapN _ bb', Mul64.wrapN _ bt, Mul64.maskN _ bt, Mul64.wrapN _ bc', Mul64.wrapN _ bw, Mul64.wrapN _ ba', Mul64.wrapN _ bh1, Mul64.wrapN _ bh, Mul64.wrapM (x * y)]
  rw [hhi]
  go_ret2
  exact ⟨rfl, (by repeat (with_reducible first | exact Below.refl _ _ | refine bw_later ?_ _ | refine bw_alloc ?_ _ | refine bw_drew ?_ | refine bw_set ?_ (Nat.le_refl _) _ | refine bw_set ?_ ?_ _ | exact Nat.le_refl _ | exact later_size _ _ | refine Nat.le_trans ?_ (later_size _ _) | refine Nat.le_trans ?_ (size_alloc_le _ _) | refine Nat.le_trans ?_ (Nat.le_add_right _ _)))⟩
def sgn (n : Int) : Int := if n < 0 then -1 else if 0 < n then 1 else 0
theorem sgn_bd (n : Int) : -1 ≤ sgn n ∧ sgn n ≤ 1 := by
  unfold sgn
  split
  · omega
  · split <;> omega
theorem sgn_any (n : Int) (w : World) : Gv Try.prog 67 #[.int .i64 n] w (.int .i64 (sgn n)) := by
  unfold Gv sgn
  go_enter Try.func67, Try.ntmps67
  go_wp2
  all_goals
    go_ret
    refine ⟨ret_int ?_, (by repeat (with_reducible first | exact Below.refl _ _ | refine bw_later ?_ _ | refine bw_alloc ?_ _ | refine bw_drew ?_ | refine bw_set ?_ (Nat.le_refl _) _ | refine bw_set ?_ ?_ _ | exact Nat.le_refl _ | exact later_size _ _ | refine Nat.le_trans ?_ (later_size _ _) | refine Nat.le_trans ?_ (size_alloc_le _ _) | refine Nat.le_trans ?_ (Nat.le_add_right _ _)))⟩
    (repeat split) <;> first | rfl | omega
theorem dist_any (n : Int) (h1 : -4611686018427387904 ≤ n) (h2 : n ≤ 4611686018427387904) (w : World) : Gv Try.prog 69 #[.int .i64 n, .int .i64 0] w (.int .i64 (n.natAbs : Int)) := by
  unfold Gv
  go_enter Try.func69, Try.ntmps69
  go_wp2
  all_goals
    go_ret
    refine ⟨ret_int ?_, (by repeat (with_reducible first | exact Below.refl _ _ | refine bw_later ?_ _ | refine bw_alloc ?_ _ | refine bw_drew ?_ | refine bw_set ?_ (Nat.le_refl _) _ | refine bw_set ?_ ?_ _ | exact Nat.le_refl _ | exact later_size _ _ | refine Nat.le_trans ?_ (later_size _ _) | refine Nat.le_trans ?_ (size_alloc_le _ _) | refine Nat.le_trans ?_ (Nat.le_add_right _ _)))⟩
    omega
def cmpI (p q : Int) : Int := if p < q then -1 else if q < p then 1 else 0
theorem sgn_mul (n : Int) (d : Nat) (h : 1 ≤ d) : sgn (n * d) = sgn n := by
  have hd : (1 : Int) ≤ d := by omega
  unfold sgn
  rcases Int.lt_trichotomy n 0 with h1 | rfl | h1
  · have : n * d < 0 := Int.mul_neg_of_neg_of_pos h1 (by omega)
    rw [if_pos this, if_pos h1]
  · simp
  · have : 0 < n * d := Int.mul_pos h1 (by omega)
    rw [if_neg (by omega : ¬ n * (d : Int) < 0), if_pos this, if_neg (by omega : ¬ n < 0), if_pos h1]
theorem cmp_ne (p q : Int) (h : sgn p ≠ sgn q) : cmpI p q = sgn (sgn p - sgn q) := by
  revert h
  unfold cmpI sgn
  (repeat' split) <;> intro h <;> omega
theorem cmp_eq (p q : Int) (h : sgn p = sgn q) : cmpI p q = cmpI p.natAbs q.natAbs * sgn p := by
  revert h
  unfold cmpI sgn
  (repeat' split) <;> intro h <;> omega
set_option maxHeartbeats 1000000 in
theorem cmp_any (n1 n2 : Int) (d1 d2 : Nat) (a1 : -4611686018427387904 ≤ n1) (a2 : n1 ≤ 4611686018427387904) (a3 : -4611686018427387904 ≤ n2) (a4 : n2 ≤ 4611686018427387904) (b1 : 1 ≤ d1) (b2 : d1 ≤ 4611686018427387904) (b3 : 1 ≤ d2) (b4 : d2 ≤ 4611686018427387904) (w : World) :
    Gv Try.prog 57 #[.agg #[.int .i64 n1, .int .i64 (d1 : Int)], .agg #[.int .i64 n2, .int .i64 (d2 : Int)]] w (.int .i64 (cmpI (n1 * d2) (n2 * d1))) := by
  unfold Gv
  obtain ⟨s1, s2⟩ := sgn_bd n1
  obtain ⟨s3, s4⟩ := sgn_bd n2
  obtain ⟨s5, s6⟩ := sgn_bd (sgn n1 - sgn n2)
  cases he : (sgn n1 != sgn n2)
  rotate_left
  · have hfin := Lib.hid (show cmpI (n1 * d2) (n2 * d1) = sgn (sgn n1 - sgn n2) by
      rw [cmp_ne _ _ (by rw [sgn_mul _ _ b3, sgn_mul _ _ b1]; simpa using he), sgn_mul _ _ b3, sgn_mul _ _ b1])
    go_enter Try.func57, Try.ntmps57
    go_wp2_with ((with_reducible refine wp_region_later (by kernel_rfl) (by kernel_rfl) ?_); (repeat (go_big_quiet_step ((go_at_call 67; exact (sgn_any _ _).quiet)))); refine wpQuiet_nil ?_; rintro _ ⟨xr, rfl⟩)
    go_ret
    exact ⟨ret_int (by rw [hfin.out]), (by repeat (with_reducible first | exact Below.refl _ _ | refine bw_later ?_ _ | refine bw_alloc ?_ _ | refine bw_drew ?_ | refine bw_set ?_ (Nat.le_refl _) _ | refine bw_set ?_ ?_ _ | exact Nat.le_refl _ | exact later_size _ _ | refine Nat.le_trans ?_ (later_size _ _) | refine Nat.le_trans ?_ (size_alloc_le _ _) | refine Nat.le_trans ?_ (Nat.le_add_right _ _)))⟩
  · have hfin := Lib.hid (show cmpI (n1 * d2) (n2 * d1) = cmpI ((n1.natAbs : Int) * (d2 : Int)) ((n2.natAbs : Int) * (d1 : Int)) * sgn n1 by
      rw [cmp_eq _ _ (by rw [sgn_mul _ _ b3, sgn_mul _ _ b1]; simpa using he), sgn_mul _ _ b3, Int.natAbs_mul, Int.natAbs_mul]
      simp)
    have u1 : IntKind.u64.wrap (n1.natAbs : Int) = (n1.natAbs : Int) := Go.IntWalk.u64_in _ (by omega)
    have u2 : IntKind.u64.wrap (n2.natAbs : Int) = (n2.natAbs : Int) := Go.IntWalk.u64_in _ (by omega)
    have u3 : IntKind.u64.wrap (d1 : Int) = (d1 : Int) := Go.IntWalk.u64_in _ (by omega)
    have u4 : IntKind.u64.wrap (d2 : Int) = (d2 : Int) := Go.IntWalk.u64_in _ (by omega)
    go_enter Try.func57, Try.ntmps57
    go_wp2_with ((with_reducible refine wp_region_later (by kernel_rfl) (by kernel_rfl) ?_); (repeat (go_big_quiet_step ((first | (go_at_call 67; exact (sgn_any _ _).quiet) | (go_at_call 69; exact (dist_any _ (by omega) (by omega) _).quiet) | (go_at_call 68; exact (mul64_any _ _ (by omega) (by omega) _).quiet))))); refine wpQuiet_nil ?_; rintro _ ⟨xr, rfl⟩)
    all_goals (go_wp2_with (go_at_call 67; (first | refine (sgn_any _ _).onL ?_ | refine (sgn_any _ _).on ?_); intro xq))
    all_goals
      go_ret
      refine ⟨ret_int ?_, (by repeat (with_reducible first | exact Below.refl _ _ | refine bw_later ?_ _ | refine bw_alloc ?_ _ | refine bw_drew ?_ | refine bw_set ?_ (Nat.le_refl _) _ | refine bw_set ?_ ?_ _ | exact Nat.le_refl _ | exact later_size _ _ | refine Nat.le_trans ?_ (later_size _ _) | refine Nat.le_trans ?_ (size_alloc_le _ _) | refine Nat.le_trans ?_ (Nat.le_add_right _ _)))⟩
      rw [hfin.out]
      clear u1 u2 u3 u4 hfin a1 a2 a3 a4 he s1 s2 s3 s4 s5 s6
      generalize (n1.natAbs : Int) * (d2 : Int) = p at *
      generalize (n2.natAbs : Int) * (d1 : Int) = q at *
      unfold cmpI
      (repeat' split) <;> first | omega | (simp_all; omega)
end Go.Proofs.Ytkdekpnnnpembaa
