/- The place with the smallest clearance: the reference, the law. -/
import Derived.Test.YtkdekpnnnpembaaLow
namespace Go.Proofs.Ytkdekpnnnpembaa
open Go Go.RowKit
theorem floor_neg {a b : Int} (hb : 1 ≤ b) : -((-a + b - 1) / b) = a / b := by
  have h1 := Int.emod_add_mul_ediv (-a + b - 1) b
  have h2 := Int.emod_nonneg (-a + b - 1) (show b ≠ 0 by omega)
  have h3 := Int.emod_lt_of_pos (-a + b - 1) (show 0 < b by omega)
  generalize (-a + b - 1) % b = s at *
  generalize (-a + b - 1) / b = q at *
  have : a / b = -q ∧ a % b = b - 1 - s := by
    rw [Int.ediv_emod_unique (by omega : 0 < b)]
    refine ⟨?_, by omega, by omega⟩
    rw [Int.mul_neg]
    omega
  exact this.1.symm
theorem floor_any (a b : Int) (h1 : -40000000000000000 ≤ a) (h2 : a ≤ 40000000000000000) (hb : 1 ≤ b) (hb2 : b ≤ 40000000000000000) (w : World) : Gv Try.prog 66 #[.int .i64 a, .int .i64 b] w (.int .i64 (a / b)) := by
  unfold Gv
  have hz : (b == 0) = false := by simp; omega
  have hz' : ¬ b = 0 := by omega
  have hdm : ∀ x : Int, 0 ≤ x → x ≤ 90000000000000000 → 0 ≤ x.tdiv b ∧ x.tdiv b ≤ 90000000000000000 := fun x x0 x1 => by
    rw [Int.tdiv_eq_ediv_of_nonneg x0]
    exact ⟨Int.ediv_nonneg x0 (by omega), Int.le_trans (Int.ediv_le_self _ x0) x1⟩
  by_cases ha : 0 ≤ a
  · have hfin := Lib.hid (show a.tdiv b = a / b from Int.tdiv_eq_ediv_of_nonneg ha)
    obtain ⟨e1, e2⟩ := hdm a ha (by omega)
    have v1 : IntKind.i64.wrap (a.tdiv b) = a.tdiv b := Go.IntWalk.i64_in _ (by omega)
    clear hdm
    go_enter Try.func66, Try.ntmps66
    go_wp2
    all_goals (go_ret; exact ⟨ret_int (by rw [← hfin.out]), (by repeat (with_reducible first | exact Below.refl _ _ | refine bw_later ?_ _ | refine bw_alloc ?_ _ | refine bw_drew ?_ | refine bw_set ?_ (Nat.le_refl _) _ | refine bw_set ?_ ?_ _ | exact Nat.le_refl _ | exact later_size _ _ | refine Nat.le_trans ?_ (later_size _ _) | refine Nat.le_trans ?_ (size_alloc_le _ _) | refine Nat.le_trans ?_ (Nat.le_add_right _ _)))⟩)
  · have hx : (0 : Int) ≤ -a + b - 1 := by omega
    have hfin := Lib.hid (show -((-a + b - 1).tdiv b) = a / b by rw [Int.tdiv_eq_ediv_of_nonneg hx]; exact floor_neg hb)
    obtain ⟨e1, e2⟩ := hdm (-a + b - 1) hx (by omega)
    have v1 : IntKind.i64.wrap ((-a + b - 1).tdiv b) = (-a + b - 1).tdiv b := Go.IntWalk.i64_in _ (by omega)
    have v2 : IntKind.i64.wrap (-((-a + b - 1).tdiv b)) = -((-a + b - 1).tdiv b) := Go.IntWalk.i64_in _ (by omega)
    have v3 : IntKind.i64.wrap (-a) = -a := Go.IntWalk.i64_in _ (by omega)
    have v4 : IntKind.i64.wrap (-a + b) = -a + b := Go.IntWalk.i64_in _ (by omega)
    have v5 : IntKind.i64.wrap (-a + b - 1) = -a + b - 1 := Go.IntWalk.i64_in _ (by omega)
    clear hdm
    go_enter Try.func66, Try.ntmps66
    go_wp2
    all_goals (go_ret; exact ⟨ret_int (by rw [← hfin.out]), (by repeat (with_reducible first | exact Below.refl _ _ | refine bw_later ?_ _ | refine bw_alloc ?_ _ | refine bw_drew ?_ | refine bw_set ?_ (Nat.le_refl _) _ | refine bw_set ?_ ?_ _ | exact Nat.le_refl _ | exact later_size _ _ | refine Nat.le_trans ?_ (later_size _ _) | refine Nat.le_trans ?_ (size_alloc_le _ _) | refine Nat.le_trans ?_ (Nat.le_add_right _ _)))⟩)
theorem less_lt {p q r s b d : Int} (hb : 1 ≤ b) (hd : 1 ≤ d) (r1 : r < b) (s0 : 0 ≤ s) (h : p < q) : (p * b + r) * d < (q * d + s) * b := by
  have h1 : (p * b + r) * d < (p * b + b) * d := Int.mul_lt_mul_of_pos_right (by omega) (by omega)
  have h2 : (p * b + b) * d = (p + 1) * (b * d) := by grind
  have h3 : (p + 1) * (b * d) ≤ q * (b * d) := Int.mul_le_mul_of_nonneg_right (by omega) (Int.mul_nonneg (by omega) (by omega))
  have h4 : (q * d + s) * b = q * (b * d) + s * b := by grind
  have h5 : 0 ≤ s * b := Int.mul_nonneg s0 (by omega)
  omega
theorem less_eq {p r s b d : Int} : ((p * b + r) * d < (p * d + s) * b) ↔ (r * d < s * b) := by
  have h1 : (p * b + r) * d = p * (b * d) + r * d := by grind
  have h2 : (p * d + s) * b = p * (b * d) + s * b := by grind
  omega
set_option maxHeartbeats 4000000 in
theorem l4Less_any : ∀ (fuel : Nat) (a b c d : Int) (w : World), b + d ≤ fuel → 1 ≤ b → b ≤ 40000000000000000 → 1 ≤ d → d ≤ 40000000000000000 → -40000000000000000 ≤ a → a ≤ 40000000000000000 → -40000000000000000 ≤ c → c ≤ 40000000000000000 →
    Gv Try.prog 56 #[.int .i64 a, .int .i64 b, .int .i64 c, .int .i64 d] w (.bool (decide (a * d < c * b))) := by
  intro fuel
  induction fuel with
  | zero => intro a b c d w h hb _ hd; exfalso; omega
  | succ fuel ih =>
    intro a b c d w hf hb hb2 hd hd2 ha1 ha2 hc1 hc2
    have hA := Lib.hid (floor_any a b ha1 ha2 hb hb2)
    have hC := Lib.hid (floor_any c d hc1 hc2 hd hd2)
    have ea := Int.emod_add_mul_ediv a b
    have r0 := Int.emod_nonneg a (show b ≠ 0 by omega)
    have r1 := Int.emod_lt_of_pos a (show 0 < b by omega)
    have ec := Int.emod_add_mul_ediv c d
    have s0 := Int.emod_nonneg c (show d ≠ 0 by omega)
    have s1 := Int.emod_lt_of_pos c (show 0 < d by omega)
    generalize a % b = r at *
    generalize c % d = s at *
    generalize a / b = p at *
    generalize c / d = q at *
    have hPB : p * b = a - r := by rw [Int.mul_comm]; omega
    have hQD : q * d = c - s := by rw [Int.mul_comm]; omega
    have ea' : a = p * b + r := by omega
    have ec' : c = q * d + s := by omega
    clear ea ec
    have v1 : IntKind.i64.wrap (p * b) = p * b := Go.IntWalk.i64_in _ (by rw [hPB]; omega)
    have v2 : IntKind.i64.wrap (a - p * b) = r := by rw [Go.IntWalk.i64_in _ (by rw [hPB]; omega)]; omega
    have v3 : IntKind.i64.wrap (q * d) = q * d := Go.IntWalk.i64_in _ (by rw [hQD]; omega)
    have v4 : IntKind.i64.wrap (c - q * d) = s := by rw [Go.IntWalk.i64_in _ (by rw [hQD]; omega)]; omega
    have hlt : p < q → a * d < c * b := fun h => by rw [ea', ec']; exact less_lt hb hd r1 s0 h
    have hgt : q < p → ¬ a * d < c * b := fun h => by
      have := less_lt (p := q) (q := p) (r := s) (s := r) (b := d) (d := b) hd hb s1 r0 h
      rw [← ea', ← ec'] at this
      omega
    have heq : p = q → ((a * d < c * b) ↔ (r * d < s * b)) := fun h => by
      have := less_eq (p := p) (r := r) (s := s) (b := b) (d := d)
      rw [← ea'] at this
      rw [h, ← ec'] at this
      exact this
    clear hPB hQD ea' ec'
    unfold Gv
    by_cases hpq : p = q
    rotate_left
    · have b1 : (p != q) = true := by simpa using hpq
      have hfin := Lib.hid (show decide (p < q) = decide (a * d < c * b) by
        rcases Int.lt_or_lt_of_ne hpq with h | h
        · simp [h, hlt h]
        · have h1 := hgt h
          have h2 : ¬ p < q := by omega
          rw [decide_eq_false h1, decide_eq_false h2])
      clear hlt hgt heq hpq ih v1 v2 v3 v4
      go_enter Try.func56, Try.ntmps56
      go_wp2_with (first | (go_at_call 66; (first | refine (hA.out _).onL ?_ | refine (hA.out _).on ?_); intro xq; clear hA) | (go_at_call 66; (first | refine (hC.out _).onL ?_ | refine (hC.out _).on ?_); intro xq))
      go_ret
      exact ⟨ret_bool (by rw [← hfin.out]), (by repeat (with_reducible first | exact Below.refl _ _ | refine bw_later ?_ _ | refine bw_alloc ?_ _ | refine bw_drew ?_ | refine bw_set ?_ (Nat.le_refl _) _ | refine bw_set ?_ ?_ _ | exact Nat.le_refl _ | exact later_size _ _ | refine Nat.le_trans ?_ (later_size _ _) | refine Nat.le_trans ?_ (size_alloc_le _ _) | refine Nat.le_trans ?_ (Nat.le_add_right _ _)))⟩
    · have b1 : (p != q) = false := by simpa using hpq
      have he := heq hpq
      subst hpq
      clear hlt hgt heq
      by_cases hr : r = 0
      · subst hr
        have hfin := Lib.hid (show decide (0 < s) = decide (a * d < c * b) by
          rw [decide_eq_decide, he, Int.zero_mul]
          constructor
          · intro h; exact Int.mul_pos h (by omega)
          · intro h; exact Int.pos_of_mul_pos_left h (by omega))
        clear he ih
        go_enter Try.func56, Try.ntmps56
        go_wp2_with (first | (go_at_call 66; (first | refine (hA.out _).onL ?_ | refine (hA.out _).on ?_); intro xq; clear hA) | (go_at_call 66; (first | refine (hC.out _).onL ?_ | refine (hC.out _).on ?_); intro xq))
        go_ret
        exact ⟨ret_bool (by rw [← hfin.out]), (by repeat (with_reducible first | exact Below.refl _ _ | refine bw_later ?_ _ | refine bw_alloc ?_ _ | refine bw_drew ?_ | refine bw_set ?_ (Nat.le_refl _) _ | refine bw_set ?_ ?_ _ | exact Nat.le_refl _ | exact later_size _ _ | refine Nat.le_trans ?_ (later_size _ _) | refine Nat.le_trans ?_ (size_alloc_le _ _) | refine Nat.le_trans ?_ (Nat.le_add_right _ _)))⟩
      · have b2 : (r == 0) = false := by simpa using hr
        by_cases hs : s = 0
        · subst hs
          have hfin := Lib.hid (show false = decide (a * d < c * b) by
            rw [eq_comm, decide_eq_false_iff_not, he, Int.zero_mul]
            have := Int.mul_nonneg r0 (show 0 ≤ d by omega)
            omega)
          clear he ih
          go_enter Try.func56, Try.ntmps56
          go_wp2_with (first | (go_at_call 66; (first | refine (hA.out _).onL ?_ | refine (hA.out _).on ?_); intro xq; clear hA) | (go_at_call 66; (first | refine (hC.out _).onL ?_ | refine (hC.out _).on ?_); intro xq))
          go_ret
          exact ⟨ret_bool (by rw [← hfin.out]), (by repeat (with_reducible first | exact Below.refl _ _ | refine bw_later ?_ _ | refine bw_alloc ?_ _ | refine bw_drew ?_ | refine bw_set ?_ (Nat.le_refl _) _ | refine bw_set ?_ ?_ _ | exact Nat.le_refl _ | exact later_size _ _ | refine Nat.le_trans ?_ (later_size _ _) | refine Nat.le_trans ?_ (size_alloc_le _ _) | refine Nat.le_trans ?_ (Nat.le_add_right _ _)))⟩
        · have b3 : (s == 0) = false := by simpa using hs
          have hfin := Lib.hid (show decide (d * r < b * s) = decide (a * d < c * b) by
            rw [decide_eq_decide, he, Int.mul_comm d r, Int.mul_comm b s])
          have hI := Lib.hid (fun w => ih d s b r w (by omega) (by omega) (by omega) (by omega) (by omega) (by omega) (by omega) (by omega) (by omega))
          clear he ih
          go_enter Try.func56, Try.ntmps56
          go_wp2_with (first | (go_at_call 56; (first | refine (hI.out _).onL ?_ | refine (hI.out _).on ?_); intro xq) | (go_at_call 66; (first | refine (hA.out _).onL ?_ | refine (hA.out _).on ?_); intro xq; clear hA) | (go_at_call 66; (first | refine (hC.out _).onL ?_ | refine (hC.out _).on ?_); intro xq))
          go_ret
          exact ⟨ret_bool (by rw [← hfin.out]), (by repeat (with_reducible first | exact Below.refl _ _ | refine bw_later ?_ _ | refine bw_alloc ?_ _ | refine bw_drew ?_ | refine bw_set ?_ (Nat.le_refl _) _ | refine bw_set ?_ ?_ _ | exact Nat.le_refl _ | exact later_size _ _ | refine Nat.le_trans ?_ (later_size _ _) | refine Nat.le_trans ?_ (size_alloc_le _ _) | refine Nat.le_trans ?_ (Nat.le_add_right _ _)))⟩
theorem red_lt {n d n' d' : Int} (h : 1 ≤ d) (h' : 1 ≤ d') : (n * d' < n' * d) ↔ (redN n d * redD n' d' < redN n' d' * redD n d) := by
  have q1 := (gcdI_pos (n := n) h).1
  have q2 := (gcdI_pos (n := n') h').1
  have e1 := redN_mul (n := n) (d := d)
  have e2 := redD_mul (n := n) (d := d)
  have e3 := redN_mul (n := n') (d := d')
  have e4 := redD_mul (n := n') (d := d')
  generalize gcdI n d = u at *
  generalize gcdI n' d' = v at *
  generalize redN n d = a at *
  generalize redD n d = b at *
  generalize redN n' d' = a' at *
  generalize redD n' d' = b' at *
  subst e1 e2 e3 e4
  have h1 : a * u * (b' * v) = a * b' * (u * v) := by grind
  have h2 : a' * v * (b * u) = a' * b * (u * v) := by grind
  rw [h1, h2]
  have hp : 0 < u * v := Int.mul_pos (by omega) (by omega)
  exact ⟨fun h => Int.lt_of_mul_lt_mul_right h (by omega), fun h => Int.mul_lt_mul_of_pos_right h hp⟩
theorem asked0_any (g off n c : Nat) (xs : List Sup) (r : R2) (w : World) (hs : SSup w g off n xs) (hn : n ≤ 1048576) : Gv Try.prog 45 #[.slice (some ⟨g, off, none⟩) n c, r.v, .int .i64 0] w (.bool (okLine xs && isRope r)) := by
  rw [← onLine_zero]
  exact l4Asked_any g off n c xs r 0 w hs hn
theorem cl2_lt {xs : List Sup} {r : R2} {gs : List R2} {i j : Nat} (h0 : okLine xs = true) (hr : isRope r = true) (hG : groundOk xs gs = true) (hi : (i : Int) ≤ lastAt xs) (hj : (j : Int) ≤ lastAt xs) :
    (clN2 xs r gs i * clD2 xs r gs j < clN2 xs r gs j * clD2 xs r gs i) ↔ (rn xs r gs i * rd xs r gs j < rn xs r gs j * rd xs r gs i) := by
  obtain ⟨⟨a1, -⟩, -, ⟨a2, -⟩, -⟩ := clear_bd (on_place h0 hi) hr hG
  obtain ⟨⟨b1, -⟩, -, ⟨b2, -⟩, -⟩ := clear_bd (on_place h0 hj) hr hG
  rw [red_lt a2 b2]
  obtain ⟨e1, e2⟩ := cl_eq a1 a2
  obtain ⟨f1, f2⟩ := cl_eq b1 b2
  rw [e1, e2, f1, f2]
  exact Iff.rfl
def LowAt (xs : List Sup) (r : R2) (gs : List R2) (k : Nat) (B N D : Int) : Prop := (k = 0 ∧ B = -1 ∧ N = 0 ∧ D = 1) ∨ (0 < k ∧ B = (lowB xs r gs k : Int) ∧ N = clN2 xs r gs (lowB xs r gs k) ∧ D = clD2 xs r gs (lowB xs r gs k))
set_option maxHeartbeats 4000000 in
theorem s_Lowest_any (g off n c : Nat) (xs : List Sup) (r : R2) (g2 off2 m c2 : Nat) (gs : List R2) (w : World) (hs : SSup w g off n xs) (hn : n ≤ 1048576) (ht : SR2 w g2 off2 m gs) (hm : m ≤ 1048576) : Gv Try.prog 35 #[.slice (some ⟨g, off, none⟩) n c, r.v, .slice (some ⟨g2, off2, none⟩) m c2] w (.tuple #[.int .i64 ((lowF xs r gs)).1, .int .i64 (((lowF xs r gs)).2).1, .int .i64 ((((lowF xs r gs)).2).2).1, .bool ((((lowF xs r gs)).2).2).2]) := by
  unfold Gv
  cases h0 : isRope r
  · have hfin := Lib.hid (show lowF xs r gs = (0, 0, 0, false) by simp [lowF, h0])
    unfold R2.v
    go_enter Try.func35, Try.ntmps35
    go_wp2_with (first | (go_at_call 45; (first | refine (asked0_any g off _ c xs r _ (by first | exact hs | exact hs.later _ | exact hs.alloc _ | exact (hs.alloc _).later _ | exact (hs.later _).alloc _ | exact ((hs.later _).alloc _).later _ | exact ((hs.alloc _).later _).alloc _ | exact (hs.alloc _).alloc _ | exact ((hs.alloc _).alloc _).later _ | exact (((hs.alloc _).later _).alloc _).later _) hn).onL ?_ | refine (asked0_any g off _ c xs r _ (by first | exact hs | exact hs.later _ | exact hs.alloc _ | exact (hs.alloc _).later _ | exact (hs.later _).alloc _ | exact ((hs.later _).alloc _).later _ | exact ((hs.alloc _).later _).alloc _ | exact (hs.alloc _).alloc _ | exact ((hs.alloc _).alloc _).later _ | exact (((hs.alloc _).later _).alloc _).later _) hn).on ?_); intro xq) | (go_at_call 39; (first | refine (s_ground_any g off _ c xs g2 off2 m c2 gs _ (by first | exact hs | exact hs.later _ | exact hs.alloc _ | exact (hs.alloc _).later _ | exact (hs.later _).alloc _ | exact ((hs.later _).alloc _).later _ | exact ((hs.alloc _).later _).alloc _ | exact (hs.alloc _).alloc _ | exact ((hs.alloc _).alloc _).later _ | exact (((hs.alloc _).later _).alloc _).later _) hn (by first | exact ht | exact ht.later _ | exact ht.alloc _ | exact (ht.alloc _).later _ | exact (ht.later _).alloc _ | exact ((ht.later _).alloc _).later _ | exact ((ht.alloc _).later _).alloc _ | exact (ht.alloc _).alloc _ | exact ((ht.alloc _).alloc _).later _ | exact (((ht.alloc _).later _).alloc _).later _) hm).onL ?_ | refine (s_ground_any g off _ c xs g2 off2 m c2 gs _ (by first | exact hs | exact hs.later _ | exact hs.alloc _ | exact (hs.alloc _).later _ | exact (hs.later _).alloc _ | exact ((hs.later _).alloc _).later _ | exact ((hs.alloc _).later _).alloc _ | exact (hs.alloc _).alloc _ | exact ((hs.alloc _).alloc _).later _ | exact (((hs.alloc _).later _).alloc _).later _) hn (by first | exact ht | exact ht.later _ | exact ht.alloc _ | exact (ht.alloc _).later _ | exact (ht.later _).alloc _ | exact ((ht.later _).alloc _).later _ | exact ((ht.alloc _).later _).alloc _ | exact (ht.alloc _).alloc _ | exact ((ht.alloc _).alloc _).later _ | exact (((ht.alloc _).later _).alloc _).later _) hm).on ?_); intro xq))
    all_goals (((try simp only [Exit.inBlock, Exit.then]); refine bodyPost_ret (results_tmp4 rfl _ _ _) rfl ?_); exact ⟨by rw [hfin.out]; try rfl, (by repeat (with_reducible first | exact Below.refl _ _ | refine bw_later ?_ _ | refine bw_alloc ?_ _ | refine bw_drew ?_ | refine bw_set ?_ (Nat.le_refl _) _ | refine bw_set ?_ ?_ _ | exact Nat.le_refl _ | exact later_size _ _ | refine Nat.le_trans ?_ (later_size _ _) | refine Nat.le_trans ?_ (size_alloc_le _ _) | refine Nat.le_trans ?_ (Nat.le_add_right _ _)))⟩)
  cases h1 : groundOk xs gs
  · have hfin := Lib.hid (show lowF xs r gs = (0, 0, 0, false) by simp [lowF, h0, h1])
    unfold R2.v
    go_enter Try.func35, Try.ntmps35
    go_wp2_with (first | (go_at_call 45; (first | refine (asked0_any g off _ c xs r _ (by first | exact hs | exact hs.later _ | exact hs.alloc _ | exact (hs.alloc _).later _ | exact (hs.later _).alloc _ | exact ((hs.later _).alloc _).later _ | exact ((hs.alloc _).later _).alloc _ | exact (hs.alloc _).alloc _ | exact ((hs.alloc _).alloc _).later _ | exact (((hs.alloc _).later _).alloc _).later _) hn).onL ?_ | refine (asked0_any g off _ c xs r _ (by first | exact hs | exact hs.later _ | exact hs.alloc _ | exact (hs.alloc _).later _ | exact (hs.later _).alloc _ | exact ((hs.later _).alloc _).later _ | exact ((hs.alloc _).later _).alloc _ | exact (hs.alloc _).alloc _ | exact ((hs.alloc _).alloc _).later _ | exact (((hs.alloc _).later _).alloc _).later _) hn).on ?_); intro xq) | (go_at_call 39; (first | refine (s_ground_any g off _ c xs g2 off2 m c2 gs _ (by first | exact hs | exact hs.later _ | exact hs.alloc _ | exact (hs.alloc _).later _ | exact (hs.later _).alloc _ | exact ((hs.later _).alloc _).later _ | exact ((hs.alloc _).later _).alloc _ | exact (hs.alloc _).alloc _ | exact ((hs.alloc _).alloc _).later _ | exact (((hs.alloc _).later _).alloc _).later _) hn (by first | exact ht | exact ht.later _ | exact ht.alloc _ | exact (ht.alloc _).later _ | exact (ht.later _).alloc _ | exact ((ht.later _).alloc _).later _ | exact ((ht.alloc _).later _).alloc _ | exact (ht.alloc _).alloc _ | exact ((ht.alloc _).alloc _).later _ | exact (((ht.alloc _).later _).alloc _).later _) hm).onL ?_ | refine (s_ground_any g off _ c xs g2 off2 m c2 gs _ (by first | exact hs | exact hs.later _ | exact hs.alloc _ | exact (hs.alloc _).later _ | exact (hs.later _).alloc _ | exact ((hs.later _).alloc _).later _ | exact ((hs.alloc _).later _).alloc _ | exact (hs.alloc _).alloc _ | exact ((hs.alloc _).alloc _).later _ | exact (((hs.alloc _).later _).alloc _).later _) hn (by first | exact ht | exact ht.later _ | exact ht.alloc _ | exact (ht.alloc _).later _ | exact (ht.later _).alloc _ | exact ((ht.later _).alloc _).later _ | exact ((ht.alloc _).later _).alloc _ | exact (ht.alloc _).alloc _ | exact ((ht.alloc _).alloc _).later _ | exact (((ht.alloc _).later _).alloc _).later _) hm).on ?_); intro xq))
    all_goals (((try simp only [Exit.inBlock, Exit.then]); refine bodyPost_ret (results_tmp4 rfl _ _ _) rfl ?_); exact ⟨by rw [hfin.out]; try rfl, (by repeat (with_reducible first | exact Below.refl _ _ | refine bw_later ?_ _ | refine bw_alloc ?_ _ | refine bw_drew ?_ | refine bw_set ?_ (Nat.le_refl _) _ | refine bw_set ?_ ?_ _ | exact Nat.le_refl _ | exact later_size _ _ | refine Nat.le_trans ?_ (later_size _ _) | refine Nat.le_trans ?_ (size_alloc_le _ _) | refine Nat.le_trans ?_ (Nat.le_add_right _ _)))⟩)
  have hfin := Lib.hid (show lowF xs r gs = lowG xs r gs (lowB xs r gs ((lastAt xs).toNat + 1)) by simp [lowF, h0, h1])
  obtain ⟨h0', -, -, -, -⟩ := ground_t h1
  have hL := line_ok h0'
  have h28 := hL.len
  have hle := hs.2.1
  obtain ⟨z, hz0, ez0, l0, l1⟩ := lastAt_is hL
  obtain ⟨nn, rfl⟩ : ∃ nn, n = nn + 1 := ⟨n - 1, by omega⟩
  rw [hle, Nat.add_sub_cancel] at hz0
  rw [ez0] at l0 l1
  have hz := Lib.hid hz0
  have ez := Lib.hid ez0
  have hr := Lib.hid h0
  have hG := Lib.hid h1
  have hg := hs.1
  have hg2 := ht.1
  have iw : IntKind.i64.wrap ((nn : Int) + 1 - 1) = (nn : Int) := by rw [Go.IntWalk.i64_in _ (by omega)]; omega
  have i2 : (nn : Int) < (nn : Int) + 1 := by omega
  have i3 : nn < nn + 1 := by omega
  clear hz0 ez0 hL h28 hle
  have h0z := Lib.hid h0'
  clear h0'

  unfold R2.v
  go_enter Try.func35, Try.ntmps35
  go_wp2_with (first | (go_at_call 45; (first | refine (asked0_any g off _ c xs r _ (by first | exact hs | exact hs.later _ | exact hs.alloc _ | exact (hs.alloc _).later _ | exact (hs.later _).alloc _ | exact ((hs.later _).alloc _).later _ | exact ((hs.alloc _).later _).alloc _ | exact (hs.alloc _).alloc _ | exact ((hs.alloc _).alloc _).later _ | exact (((hs.alloc _).later _).alloc _).later _) hn).onL ?_ | refine (asked0_any g off _ c xs r _ (by first | exact hs | exact hs.later _ | exact hs.alloc _ | exact (hs.alloc _).later _ | exact (hs.later _).alloc _ | exact ((hs.later _).alloc _).later _ | exact ((hs.alloc _).later _).alloc _ | exact (hs.alloc _).alloc _ | exact ((hs.alloc _).alloc _).later _ | exact (((hs.alloc _).later _).alloc _).later _) hn).on ?_); intro xq) | (go_at_call 39; (first | refine (s_ground_any g off _ c xs g2 off2 m c2 gs _ (by first | exact hs | exact hs.later _ | exact hs.alloc _ | exact (hs.alloc _).later _ | exact (hs.later _).alloc _ | exact ((hs.later _).alloc _).later _ | exact ((hs.alloc _).later _).alloc _ | exact (hs.alloc _).alloc _ | exact ((hs.alloc _).alloc _).later _ | exact (((hs.alloc _).later _).alloc _).later _) hn (by first | exact ht | exact ht.later _ | exact ht.alloc _ | exact (ht.alloc _).later _ | exact (ht.later _).alloc _ | exact ((ht.later _).alloc _).later _ | exact ((ht.alloc _).later _).alloc _ | exact (ht.alloc _).alloc _ | exact ((ht.alloc _).alloc _).later _ | exact (((ht.alloc _).later _).alloc _).later _) hm).onL ?_ | refine (s_ground_any g off _ c xs g2 off2 m c2 gs _ (by first | exact hs | exact hs.later _ | exact hs.alloc _ | exact (hs.alloc _).later _ | exact (hs.later _).alloc _ | exact ((hs.later _).alloc _).later _ | exact ((hs.alloc _).later _).alloc _ | exact (hs.alloc _).alloc _ | exact ((hs.alloc _).alloc _).later _ | exact (((hs.alloc _).later _).alloc _).later _) hn (by first | exact ht | exact ht.later _ | exact ht.alloc _ | exact (ht.alloc _).later _ | exact (ht.later _).alloc _ | exact ((ht.later _).alloc _).later _ | exact ((ht.alloc _).later _).alloc _ | exact (ht.alloc _).alloc _ | exact ((ht.alloc _).alloc _).later _ | exact (((ht.alloc _).later _).alloc _).later _) hm).on ?_); intro xq))
  go_loopw [10, 11, 12, 13] (fun b u v i wr => ∃ (k : Nat) (B N D : Int), Below (w.alloc (.cells #[.int .i64 r.a, .int .i64 r.b] 25)).heap.size (w.alloc (.cells #[.int .i64 r.a, .int .i64 r.b] 25)) wr ∧ (k : Int) ≤ z.at_ + 1 ∧ i = .int .i64 (k : Int) ∧ b = .int .i64 B ∧ u = .int .i64 N ∧ v = .int .i64 D ∧ Hid (LowAt xs r gs k B N D)) (fun _ _ _ i _ => (z.at_ + 1 - intOf i).toNat)
  case atStart => exact ⟨0, -1, 0, 1, (by repeat (with_reducible first | exact Below.refl _ _ | refine bw_later ?_ _ | refine bw_alloc ?_ _ | refine bw_drew ?_ | refine bw_set ?_ (Nat.le_refl _) _ | refine bw_set ?_ ?_ _ | exact Nat.le_refl _ | exact later_size _ _ | refine Nat.le_trans ?_ (later_size _ _) | refine Nat.le_trans ?_ (size_alloc_le _ _) | refine Nat.le_trans ?_ (Nat.le_add_right _ _))), by omega, rfl, rfl, rfl, rfl, Lib.hid (.inl ⟨rfl, rfl, rfl, rfl⟩)⟩
  case round =>
    obtain ⟨k, B, N, D, hbw, hk, rfl, rfl, rfl, rfl, hst⟩ := hrel
    obtain ⟨y, rfl⟩ := exists_later hbw
    clear hbw
    have hgy := lt_later_1_0 w _ y g hg
    have hRl : w.heap.size < (later (w.alloc (.cells #[.int .i64 r.a, .int .i64 r.b] 25)) y).heap.size := lt_later _ y _ (by simp)
    obtain ⟨z0, -, -⟩ := hs.2.2 nn z hz.out
    by_cases hlt : (k : Int) ≤ z.at_
    · have hkl : (k : Int) ≤ lastAt xs := by rw [ez.out]; exact hlt
      have hcK : Hid (∀ w, SSup w g off (nn + 1) xs → SR2 w g2 off2 m gs → Gv Try.prog 54 #[.slice (some ⟨g, off, none⟩) (nn + 1) c, .agg #[.int .i64 r.a, .int .i64 r.b], .slice (some ⟨g2, off2, none⟩) m c2, .int .i64 (k : Int)] w (.tuple #[.int .i64 (clN2 xs r gs k), .int .i64 (clD2 xs r gs k)])) := Lib.hid fun w h h' => l4Clear_any g off (nn + 1) c xs r g2 off2 m c2 gs (k : Int) w h hn h' hm (on_place h0z.out hkl) hr.out hG.out
      rcases hst.out with ⟨e0, e1, e2, e3⟩ | ⟨e0, e1, e2, e3⟩
      · subst e0 e1 e2 e3
        clear hst
        go_wp2_with (go_at_call 54; refine (hcK.out _ (by exact (hs.alloc _).later _) (by exact (ht.alloc _).later _)).onB (w0 := (w.alloc (.cells #[.int .i64 r.a, .int .i64 r.b] 25))) (by repeat (with_reducible first | exact Below.refl _ _ | refine bw_later ?_ _ | refine bw_alloc ?_ _ | refine bw_drew ?_ | refine bw_set ?_ (Nat.le_refl _) _ | refine bw_set ?_ ?_ _ | exact Nat.le_refl _ | exact later_size _ _ | refine Nat.le_trans ?_ (later_size _ _) | refine Nat.le_trans ?_ (size_alloc_le _ _) | refine Nat.le_trans ?_ (Nat.le_add_right _ _))) ?_; intro xq; clear hcK)
        go_roundw
        case rel => exact ⟨1, 0, _, _, (by repeat (with_reducible first | exact Below.refl _ _ | refine bw_later ?_ _ | refine bw_alloc ?_ _ | refine bw_drew ?_ | refine bw_set ?_ (Nat.le_refl _) _ | refine bw_set ?_ ?_ _ | exact Nat.le_refl _ | exact later_size _ _ | refine Nat.le_trans ?_ (later_size _ _) | refine Nat.le_trans ?_ (size_alloc_le _ _) | refine Nat.le_trans ?_ (Nat.le_add_right _ _))), by omega, by go_num, rfl, rfl, rfl, Lib.hid (.inr ⟨by omega, by rw [low_one]; rfl, by rw [low_one]; rfl, by rw [low_one]; rfl⟩)⟩
        case measure => simp [intOf]; omega
      · have hbl : ((lowB xs r gs k : Nat) : Int) ≤ lastAt xs := by have := low_le (xs := xs) (r := r) (gs := gs) k; omega
        obtain ⟨-, -, ⟨d1, d2⟩, ⟨n1, n2⟩⟩ := clear_bd (on_place h0z.out hkl) hr.out hG.out
        obtain ⟨-, -, ⟨d3, d4⟩, ⟨n3, n4⟩⟩ := clear_bd (on_place h0z.out hbl) hr.out hG.out
        have hiff := cl2_lt h0z.out hr.out hG.out hkl hbl
        rw [← e2] at n3 n4
        rw [← e3] at d3 d4
        rw [← e2, ← e3] at hiff
        have hcL := Lib.hid (fun w => l4Less_any (clD2 xs r gs k + D).toNat (clN2 xs r gs k) (clD2 xs r gs k) N D w (by omega) d1 (by omega) d3 (by omega) (by omega) (by omega) (by omega) (by omega))
        have hB0 : decide (B < 0) = false := by simp; omega
        have hY := Lib.hid (low_yes (xs := xs) (r := r) (gs := gs) (k := k))
        have hNo := Lib.hid (low_no (xs := xs) (r := r) (gs := gs) (k := k))
        have HI := Lib.hid hiff
        have StA := Lib.hid (And.intro e1 (And.intro e2 e3))
        have eb : B = B := rfl
        clear hiff e1 e2 e3 hst n1 n2 n3 n4 d1 d2 d3 d4
        generalize ea : clN2 xs r gs (k : Int) = a at hcK hcL HI
        generalize eb' : clD2 xs r gs (k : Int) = b at hcK hcL HI
        have HA := Lib.hid ea.symm
        have HBB := Lib.hid eb'.symm
        clear ea eb' eb
        cases hp : decide (a * D < N * b)
        · rw [hp] at hcL
          have HP := Lib.hid (hNo.out fun h => of_decide_eq_false hp (HI.out.2 h))
          clear hp hNo hY HI
          go_wp2_with (first | (go_at_call 54; refine (hcK.out _ (by exact (hs.alloc _).later _) (by exact (ht.alloc _).later _)).onB (w0 := (w.alloc (.cells #[.int .i64 r.a, .int .i64 r.b] 25))) (by repeat (with_reducible first | exact Below.refl _ _ | refine bw_later ?_ _ | refine bw_alloc ?_ _ | refine bw_drew ?_ | refine bw_set ?_ (Nat.le_refl _) _ | refine bw_set ?_ ?_ _ | exact Nat.le_refl _ | exact later_size _ _ | refine Nat.le_trans ?_ (later_size _ _) | refine Nat.le_trans ?_ (size_alloc_le _ _) | refine Nat.le_trans ?_ (Nat.le_add_right _ _))) ?_; intro xq; clear hcK) | (go_at_call 56; refine (hcL.out _).onB (w0 := (w.alloc (.cells #[.int .i64 r.a, .int .i64 r.b] 25))) (by repeat (with_reducible first | exact Below.refl _ _ | refine bw_later ?_ _ | refine bw_alloc ?_ _ | refine bw_drew ?_ | refine bw_set ?_ (Nat.le_refl _) _ | refine bw_set ?_ ?_ _ | exact Nat.le_refl _ | exact later_size _ _ | refine Nat.le_trans ?_ (later_size _ _) | refine Nat.le_trans ?_ (size_alloc_le _ _) | refine Nat.le_trans ?_ (Nat.le_add_right _ _))) ?_; intro xq2; clear hcL))
          go_roundw
          case rel => exact ⟨k + 1, B, N, D, (by repeat (with_reducible first | exact Below.refl _ _ | refine bw_later ?_ _ | refine bw_alloc ?_ _ | refine bw_drew ?_ | refine bw_set ?_ (Nat.le_refl _) _ | refine bw_set ?_ ?_ _ | exact Nat.le_refl _ | exact later_size _ _ | refine Nat.le_trans ?_ (later_size _ _) | refine Nat.le_trans ?_ (size_alloc_le _ _) | refine Nat.le_trans ?_ (Nat.le_add_right _ _))), by omega, by go_num, rfl, rfl, rfl, Lib.hid (.inr ⟨by omega, by rw [HP.out]; exact StA.out.1, by rw [HP.out]; exact StA.out.2.1, by rw [HP.out]; exact StA.out.2.2⟩)⟩
          case measure => simp [intOf]; omega
        · rw [hp] at hcL
          have HP := Lib.hid (hY.out (HI.out.1 (of_decide_eq_true hp)))
          clear hp hNo hY HI
          go_wp2_with (first | (go_at_call 54; refine (hcK.out _ (by exact (hs.alloc _).later _) (by exact (ht.alloc _).later _)).onB (w0 := (w.alloc (.cells #[.int .i64 r.a, .int .i64 r.b] 25))) (by repeat (with_reducible first | exact Below.refl _ _ | refine bw_later ?_ _ | refine bw_alloc ?_ _ | refine bw_drew ?_ | refine bw_set ?_ (Nat.le_refl _) _ | refine bw_set ?_ ?_ _ | exact Nat.le_refl _ | exact later_size _ _ | refine Nat.le_trans ?_ (later_size _ _) | refine Nat.le_trans ?_ (size_alloc_le _ _) | refine Nat.le_trans ?_ (Nat.le_add_right _ _))) ?_; intro xq; clear hcK) | (go_at_call 56; refine (hcL.out _).onB (w0 := (w.alloc (.cells #[.int .i64 r.a, .int .i64 r.b] 25))) (by repeat (with_reducible first | exact Below.refl _ _ | refine bw_later ?_ _ | refine bw_alloc ?_ _ | refine bw_drew ?_ | refine bw_set ?_ (Nat.le_refl _) _ | refine bw_set ?_ ?_ _ | exact Nat.le_refl _ | exact later_size _ _ | refine Nat.le_trans ?_ (later_size _ _) | refine Nat.le_trans ?_ (size_alloc_le _ _) | refine Nat.le_trans ?_ (Nat.le_add_right _ _))) ?_; intro xq2; clear hcL))
          go_roundw
          case rel => exact ⟨k + 1, (k : Int), a, b, (by repeat (with_reducible first | exact Below.refl _ _ | refine bw_later ?_ _ | refine bw_alloc ?_ _ | refine bw_drew ?_ | refine bw_set ?_ (Nat.le_refl _) _ | refine bw_set ?_ ?_ _ | exact Nat.le_refl _ | exact later_size _ _ | refine Nat.le_trans ?_ (later_size _ _) | refine Nat.le_trans ?_ (size_alloc_le _ _) | refine Nat.le_trans ?_ (Nat.le_add_right _ _))), by omega, by go_num, rfl, rfl, rfl, Lib.hid (.inr ⟨by omega, by rw [HP.out], by rw [HP.out]; exact HA.out, by rw [HP.out]; exact HBB.out⟩)⟩
          case measure => simp [intOf]; omega
    · have ek : k = (lastAt xs).toNat + 1 := by rw [ez.out]; omega
      obtain ⟨q0, e1, e2, e3⟩ : 0 < k ∧ B = (lowB xs r gs k : Int) ∧ N = clN2 xs r gs (lowB xs r gs k) ∧ D = clD2 xs r gs (lowB xs r gs k) := by
        rcases hst.out with ⟨e0, _⟩ | h
        · omega
        · exact h
      have hbl : ((lowB xs r gs k : Nat) : Int) ≤ lastAt xs := by rw [ek]; have := low_lt (xs := xs) (r := r) (gs := gs) (lastAt xs).toNat; rw [ez.out] at this ⊢; omega
      obtain ⟨⟨d1, d2⟩, -, ⟨d3, d4⟩, ⟨n3, n4⟩⟩ := clear_bd (on_place h0z.out hbl) hr.out hG.out
      obtain ⟨f1, f2⟩ := cl_eq d1 d3
      rw [← e2, ← e3] at f1 f2
      rw [← e2] at n3 n4
      rw [← e3] at d3 d4
      have HE := Lib.hid (show lowF xs r gs = (B, redN N D, redD N D, true) by rw [hfin.out, ← ek, lowG, e1, f1, f2]; rfl)
      have hcR := Lib.hid (fun w => reduce_any N D d3 (by omega) (by omega) (by omega) w)
      clear e1 e2 e3 f1 f2 hst d1 d2 d3 d4 n3 n4 q0 ek hbl
      go_wp2_with (go_at_call 51; (first | refine (hcR.out _).onL ?_ | refine (hcR.out _).on ?_); intro xq)
      ((try simp only [Exit.inBlock, Exit.then]); refine bodyPost_ret (results_tmp4 rfl _ _ _) rfl ?_)
      exact ⟨by rw [HE.out]; rfl, (by repeat (with_reducible first | exact Below.refl _ _ | refine bw_later ?_ _ | refine bw_alloc ?_ _ | refine bw_drew ?_ | refine bw_set ?_ (Nat.le_refl _) _ | refine bw_set ?_ ?_ _ | exact Nat.le_refl _ | exact later_size _ _ | refine Nat.le_trans ?_ (later_size _ _) | refine Nat.le_trans ?_ (size_alloc_le _ _) | refine Nat.le_trans ?_ (Nat.le_add_right _ _)))⟩
theorem law_LowestClearance (A0 : Option Addr) (n0 c0 : Nat) (xs0 : List Sup) (r1 : R2) (A2 : Option Addr) (n2 c2 : Nat) (xs2 : List R2) (w : World) (rd0 : ASup w A0 n0 xs0 ∧ n0 ≤ 9223372036854775807) (rd2 : AR2 w A2 n2 xs2 ∧ n2 ≤ 9223372036854775807) : Gv Try.prog 11 #[.slice A0 n0 c0, r1.v, .slice A2 n2 c2] w (.bool true) := by
  obtain ⟨ha0, hm0⟩ := rd0
  replace ha0 := ha0.below2 (w' := (w.alloc (.cells #[.int .i64 r1.a, .int .i64 r1.b] 23))) (bw_alloc (Below.refl _ _) _)
  obtain ⟨ha2, hm2⟩ := rd2
  replace ha2 := ha2.below2 (w' := (w.alloc (.cells #[.int .i64 r1.a, .int .i64 r1.b] 23))) (bw_alloc (Below.refl _ _) _)
  unfold Gv
  unfold R2.v
  by_cases k0 : 1048576 < n0
  · have z0 : szF n0 ((1048576 : Int)) = -1 := by unfold szF; rw [if_pos (by omega)]
    go_enter Try.func11, Try.ntmps11
    go_wp2_with fail
    refine Calls.mono (szSupport_any A0 n0 c0 ((1048576 : Int)) hm0 (by omega) (by omega) _) ?_
    rintro _ w1 ⟨rfl, b1⟩
    have hw := b1
    rw [z0]
    clear z0
    go_wp2_with fail
    go_ret
    exact ⟨rfl, bw_trans (bw_alloc (Below.refl _ _) _) hw⟩
  by_cases k2 : 1048576 < n0 + n2
  · have z0 : szF n0 ((1048576 : Int)) = (1048576 : Int) - (n0 : Int) := by unfold szF; rw [if_neg (by omega)]
    have z2 : szF n2 ((1048576 : Int) - (n0 : Int)) = -1 := by unfold szF; rw [if_pos (by omega)]
    go_enter Try.func11, Try.ntmps11
    go_wp2_with fail
    refine Calls.mono (szSupport_any A0 n0 c0 ((1048576 : Int)) hm0 (by omega) (by omega) _) ?_
    rintro _ w1 ⟨rfl, b1⟩
    have hw := b1
    rw [z0]
    clear z0
    go_wp2_with fail
    refine Calls.mono (szGroundPoint_any A2 n2 c2 ((1048576 : Int) - (n0 : Int)) hm2 (by omega) (by omega) _) ?_
    rintro _ w2 ⟨rfl, b2⟩
    replace hw := bw_trans hw b2
    rw [z2]
    clear z2
    go_wp2_with fail
    go_ret
    exact ⟨rfl, bw_trans (bw_alloc (Below.refl _ _) _) hw⟩
  · have hn0 : n0 ≤ 1048576 := by omega
    have hn2 : n2 ≤ 1048576 := by omega
    have z0 : szF n0 ((1048576 : Int)) = (1048576 : Int) - (n0 : Int) := by unfold szF; rw [if_neg (by omega)]
    have z2 : szF n2 ((1048576 : Int) - (n0 : Int)) = (1048576 : Int) - (n0 : Int) - (n2 : Int) := by unfold szF; rw [if_neg (by omega)]
    go_enter Try.func11, Try.ntmps11
    go_wp2_with fail
    refine Calls.mono (szSupport_any A0 n0 c0 ((1048576 : Int)) hm0 (by omega) (by omega) _) ?_
    rintro _ w1 ⟨rfl, b1⟩
    replace ha0 := ha0.below2 b1
    replace ha2 := ha2.below2 b1
    have hw := b1
    rw [z0]
    clear z0
    go_wp2_with fail
    refine Calls.mono (szGroundPoint_any A2 n2 c2 ((1048576 : Int) - (n0 : Int)) hm2 (by omega) (by omega) _) ?_
    rintro _ w2 ⟨rfl, b2⟩
    replace ha0 := ha0.below2 b2
    replace ha2 := ha2.below2 b2
    replace hw := bw_trans hw b2
    rw [z2]
    clear z2
    go_wp2_with fail
    (refine wp_region_C (Below (w2).heap.size (w2)) (by kernel_rfl) ?_)
    generalize hgd3 : w2.drew = w3
    have b3 : Below w2.heap.size w2 w3 := by rw [← hgd3]; exact (Below.refl _ _).drew
    clear hgd3
    have f1_0 : w2.cell? ⟨w.heap.size, 0, none⟩ = some (.int .i64 r1.a) := (hw.cell (p := ⟨_, _, none⟩) (by simp)).trans (by simp [go_sem])
    have f1_1 : w2.cell? ⟨w.heap.size, 1, none⟩ = some (.int .i64 r1.b) := (hw.cell (p := ⟨_, _, none⟩) (by simp)).trans (by simp [go_sem])
    have g1_ : w.heap.size < w2.heap.size := by have := hw.size; simp at this; omega
    have hreg := b3
    refine step_read (i := 0) (by kernel_rfl) (by kernel_rfl) rfl hreg rfl (fun K hK => ?_)
    apply Exists.intro
    refine ⟨fun x => ?_, ?_⟩
    · go_simp; (try rfl)
    go_simp; refine hK _ ?_; clear hK K
    refine step_read (i := 2) (by kernel_rfl) (by kernel_rfl) rfl hreg rfl (fun K hK => ?_)
    apply Exists.intro
    refine ⟨fun x => ?_, ?_⟩
    · go_simp; (try rfl)
    go_simp; refine hK _ ?_; clear hK K
    refine step_read (i := 4) (by kernel_rfl) (by kernel_rfl) rfl hreg rfl (fun K hK => ?_)
    apply Exists.intro
    refine ⟨fun x => ?_, ?_⟩
    · go_simp; (try rfl)
    go_simp; refine hK _ ?_; clear hK K
    clear f1_0 f1_1 g1_
    replace ha0 := ha0.below2 b3
    replace ha2 := ha2.below2 b3
    replace hw := bw_trans hw b3
    refine step_one (i := 1) (by kernel_rfl) rfl hreg (fun K hK => ?_)
    go_wp2_with fail
    refine Calls.mono (toSupportS_any A0 n0 c0 xs0 _ ha0 hn0) ?_
    rintro _ w4 ⟨g4, rfl, q4, hB4, b4⟩
    replace ha0 := ha0.below2 b4
    replace ha2 := ha2.below2 b4
    replace hw := bw_trans hw b4
    replace hreg := bw_trans hreg b4
    (try go_wp2)
    (try refine hK _ _ ?_)
    (try clear hK K)
    refine step_one (i := 3) (by kernel_rfl) rfl hreg (fun K hK => ?_)
    go_wp2_with fail
    refine Calls.mono (toRope_any r1 _) ?_
    rintro _ w5 ⟨rfl, b5⟩
    replace ha0 := ha0.below2 b5
    replace ha2 := ha2.below2 b5
    replace hB4 := hB4.below2 b5
    replace hw := bw_trans hw b5
    (try unfold R2.v)
    replace hreg := bw_trans hreg b5
    (try go_wp2)
    (try refine hK _ _ ?_)
    (try clear hK K)
    refine step_one (i := 5) (by kernel_rfl) rfl hreg (fun K hK => ?_)
    go_wp2_with fail
    refine Calls.mono (toGroundPointS_any A2 n2 c2 xs2 _ ha2 hn2) ?_
    rintro _ w6 ⟨g6, rfl, q6, hB6, b6⟩
    replace ha0 := ha0.below2 b6
    replace ha2 := ha2.below2 b6
    replace hB4 := hB4.below2 b6
    replace hw := bw_trans hw b6
    replace hreg := bw_trans hreg b6
    (try go_wp2)
    (try refine hK _ _ ?_)
    (try clear hK K)
    refine step_one (i := 6) (by kernel_rfl) rfl hreg (fun K hK => ?_)
    go_wp2_with fail
    refine Calls.mono (s_Lowest_any g4 0 n0 n0 xs0 r1 g6 0 n2 n2 xs2 _ hB4.reads hn0 hB6.reads hn2) ?_
    rintro _ w7 ⟨rfl, b7⟩
    replace ha0 := ha0.below2 b7
    replace ha2 := ha2.below2 b7
    replace hB4 := hB4.below2 b7
    replace hB6 := hB6.below2 b7
    replace hw := bw_trans hw b7
    replace hreg := bw_trans hreg b7
    (try go_wp2)
    (try refine hK _ _ ?_)
    (try clear hK K)
    refine step_read (i := 7) (by kernel_rfl) (by kernel_rfl) rfl hreg rfl (fun K hK => ?_)
    apply Exists.intro
    refine ⟨fun x => ?_, ?_⟩
    · go_simp; (try rfl)
    go_simp; refine hK _ ?_; clear hK K
    refine step_read (i := 8) (by kernel_rfl) (by kernel_rfl) rfl hreg rfl (fun K hK => ?_)
    apply Exists.intro
    refine ⟨fun x => ?_, ?_⟩
    · go_simp; (try rfl)
    go_simp; refine hK _ ?_; clear hK K
    refine step_read (i := 9) (by kernel_rfl) (by kernel_rfl) rfl hreg rfl (fun K hK => ?_)
    apply Exists.intro
    refine ⟨fun x => ?_, ?_⟩
    · go_simp; (try rfl)
    go_simp; refine hK _ ?_; clear hK K
    refine step_read (i := 10) (by kernel_rfl) (by kernel_rfl) rfl hreg rfl (fun K hK => ?_)
    apply Exists.intro
    refine ⟨fun x => ?_, ?_⟩
    · go_simp; (try rfl)
    go_simp; refine hK _ ?_; clear hK K
    refine step_read (i := 11) (by kernel_rfl) (by kernel_rfl) rfl hreg rfl (fun K hK => ?_)
    apply Exists.intro
    refine ⟨fun x => ?_, ?_⟩
    · go_simp; (try rfl)
    go_simp; refine hK _ ?_; clear hK K
    refine step_read (i := 12) (by kernel_rfl) (by kernel_rfl) rfl hreg rfl (fun K hK => ?_)
    apply Exists.intro
    refine ⟨fun x => ?_, ?_⟩
    · go_simp; (try rfl)
    go_simp; refine hK _ ?_; clear hK K
    refine step_read (i := 13) (by kernel_rfl) (by kernel_rfl) rfl hreg rfl (fun K hK => ?_)
    apply Exists.intro
    refine ⟨fun x => ?_, ?_⟩
    · go_simp; (try rfl)
    go_simp; refine hK _ ?_; clear hK K
    refine step_read (i := 14) (by kernel_rfl) (by kernel_rfl) rfl hreg rfl (fun K hK => ?_)
    apply Exists.intro
    refine ⟨fun x => ?_, ?_⟩
    · go_simp; (try rfl)
    go_simp; refine hK _ ?_; clear hK K
    refine step_read (i := 15) (by kernel_rfl) (by kernel_rfl) rfl hreg rfl (fun K hK => ?_)
    apply Exists.intro
    refine ⟨fun x => ?_, ?_⟩
    · go_simp; (try rfl)
    go_simp; refine hK _ ?_; clear hK K
    refine step_end (by kernel_rfl) hreg ?_
    clear hreg
    go_wp2_with fail
    refine Calls.mono (toSupportS_any A0 n0 c0 xs0 _ ha0 hn0) ?_
    rintro _ w8 ⟨g8, rfl, q8, hB8, b8⟩
    replace ha0 := ha0.below2 b8
    replace ha2 := ha2.below2 b8
    replace hB4 := hB4.below2 b8
    replace hB6 := hB6.below2 b8
    replace hw := bw_trans hw b8
    go_wp2_with fail
    refine Calls.mono (toGroundPointS_any A2 n2 c2 xs2 _ ha2 hn2) ?_
    rintro _ w9 ⟨g9, rfl, q9, hB9, b9⟩
    replace ha0 := ha0.below2 b9
    replace ha2 := ha2.below2 b9
    replace hB4 := hB4.below2 b9
    replace hB6 := hB6.below2 b9
    replace hB8 := hB8.below2 b9
    replace hw := bw_trans hw b9
    have e0 : w9.cell? ⟨w.heap.size, 0, none⟩ = some (.int .i64 r1.a) := (hw.cell (p := ⟨_, _, none⟩) (by simp)).trans (by simp [go_sem])
    have e1 : w9.cell? ⟨w.heap.size, 1, none⟩ = some (.int .i64 r1.b) := (hw.cell (p := ⟨_, _, none⟩) (by simp)).trans (by simp [go_sem])
    go_wp2_with fail
    refine Calls.mono (toRope_any r1 _) ?_
    rintro _ w10 ⟨rfl, b10⟩
    replace ha0 := ha0.below2 b10
    replace ha2 := ha2.below2 b10
    replace hB4 := hB4.below2 b10
    replace hB6 := hB6.below2 b10
    replace hB8 := hB8.below2 b10
    replace hB9 := hB9.below2 b10
    replace hw := bw_trans hw b10
    unfold R2.v
    clear e0 e1
    go_wp2_with fail
    refine Calls.mono (i_Lowest_any g8 0 n0 n0 xs0 r1 g9 0 n2 n2 xs2 _ hB8.reads hn0 hB9.reads hn2) ?_
    rintro _ w11 ⟨rfl, b11⟩
    replace ha0 := ha0.below2 b11
    replace ha2 := ha2.below2 b11
    replace hB4 := hB4.below2 b11
    replace hB6 := hB6.below2 b11
    replace hB8 := hB8.below2 b11
    replace hB9 := hB9.below2 b11
    replace hw := bw_trans hw b11
    go_wp2_with fail
    refine Calls.mono (toSupportS_any A0 n0 c0 xs0 _ ha0 hn0) ?_
    rintro _ w12 ⟨g12, rfl, q12, hB12, b12⟩
    replace ha0 := ha0.below2 b12
    replace ha2 := ha2.below2 b12
    replace hB4 := hB4.below2 b12
    replace hB6 := hB6.below2 b12
    replace hB8 := hB8.below2 b12
    replace hB9 := hB9.below2 b12
    replace hw := bw_trans hw b12
    go_wp2_with fail
    refine Calls.mono (eqSupportS_any _ _ n0 n0 n0 n0 xs0 xs0 _ (ASup.of hB8.reads) (ASup.of hB12.reads) hn0 hn0) ?_
    rintro _ w13 ⟨rfl, b13⟩
    replace ha0 := ha0.below2 b13
    replace ha2 := ha2.below2 b13
    replace hB4 := hB4.below2 b13
    replace hB6 := hB6.below2 b13
    replace hB8 := hB8.below2 b13
    replace hB9 := hB9.below2 b13
    replace hB12 := hB12.below2 b13
    replace hw := bw_trans hw b13
    go_wp2_with fail
    refine Calls.mono (toGroundPointS_any A2 n2 c2 xs2 _ ha2 hn2) ?_
    rintro _ w14 ⟨g14, rfl, q14, hB14, b14⟩
    replace ha0 := ha0.below2 b14
    replace ha2 := ha2.below2 b14
    replace hB4 := hB4.below2 b14
    replace hB6 := hB6.below2 b14
    replace hB8 := hB8.below2 b14
    replace hB9 := hB9.below2 b14
    replace hB12 := hB12.below2 b14
    replace hw := bw_trans hw b14
    go_wp2_with fail
    refine Calls.mono (eqGroundPointS_any _ _ n2 n2 n2 n2 xs2 xs2 _ (AR2.of hB9.reads) (AR2.of hB14.reads) hn2 hn2) ?_
    rintro _ w15 ⟨rfl, b15⟩
    replace ha0 := ha0.below2 b15
    replace ha2 := ha2.below2 b15
    replace hB4 := hB4.below2 b15
    replace hB6 := hB6.below2 b15
    replace hB8 := hB8.below2 b15
    replace hB9 := hB9.below2 b15
    replace hB12 := hB12.below2 b15
    replace hB14 := hB14.below2 b15
    replace hw := bw_trans hw b15
    go_wp2_with fail
    go_ret
    exact ⟨rfl, bw_trans (bw_alloc (Below.refl _ _) _) hw⟩
end Go.Proofs.Ytkdekpnnnpembaa
