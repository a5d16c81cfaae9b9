/- Fractions in lowest terms; the greatest common divisor by Euclid's steps. No program in sight. -/
import Derived.Test.YtkdekpnnnpembaaLib
namespace Go.Proofs.Ytkdekpnnnpembaa
theorem gcd_tmod (a b : Int) : Int.gcd b (a.tmod b) = Int.gcd a b := by
  simp only [Int.gcd, Int.natAbs_tmod]
  rw [Nat.gcd_comm, ← Nat.gcd_rec, Nat.gcd_comm]
theorem gcd_emod {a b : Int} (ha : 0 ≤ a) : Int.gcd b (a % b) = Int.gcd a b := by
  rw [← Int.tmod_eq_emod_of_nonneg ha]; exact gcd_tmod a b
theorem tmod_lt (a b : Int) (h : b ≠ 0) : (a.tmod b).natAbs < b.natAbs := by
  rw [Int.natAbs_tmod]
  exact Nat.mod_lt _ (by omega)
/-- The greatest common divisor, as an integer. -/
def gcdI (n d : Int) : Int := (Int.gcd n d : Int)
theorem gcdI_zero (n : Int) : gcdI n 0 = (n.natAbs : Int) := by simp [gcdI]
theorem gcdI_pos {n d : Int} (h : 1 ≤ d) : 1 ≤ gcdI n d ∧ gcdI n d ≤ d := by
  unfold gcdI
  have h1 : 0 < Int.gcd n d := Int.gcd_pos_of_ne_zero_right _ (by omega)
  have h2 : Int.gcd n d ≤ d.natAbs := Nat.le_of_dvd (by omega) (Nat.gcd_dvd_right _ _)
  omega
def redN (n d : Int) : Int := n.tdiv (gcdI n d)
def redD (n d : Int) : Int := d / gcdI n d
theorem redN_mul {n d : Int} : redN n d * gcdI n d = n := by
  unfold redN gcdI
  exact Int.tdiv_mul_cancel (Int.gcd_dvd_left ..)
theorem redD_mul {n d : Int} : redD n d * gcdI n d = d := by
  unfold redD gcdI
  exact Int.ediv_mul_cancel (Int.gcd_dvd_right ..)
theorem redD_pos {n d : Int} (h : 1 ≤ d) : 1 ≤ redD n d ∧ redD n d ≤ d := by
  have hg := gcdI_pos (n := n) h
  have hm := redD_mul (n := n) (d := d)
  have h1 : 1 ≤ redD n d := by
    rcases Int.lt_or_le (redD n d) 1 with h' | h'
    · have : redD n d * gcdI n d ≤ 0 := Int.mul_nonpos_of_nonpos_of_nonneg (by omega) (by omega)
      omega
    · exact h'
  refine ⟨h1, ?_⟩
  have : redD n d * 1 ≤ redD n d * gcdI n d := Int.mul_le_mul_of_nonneg_left hg.1 (by omega)
  omega
theorem redN_bd {n d : Int} (h : 1 ≤ d) {B : Int} (h1 : -B ≤ n) (h2 : n ≤ B) : -B ≤ redN n d ∧ redN n d ≤ B := by
  have hg := gcdI_pos (n := n) h
  have hm := redN_mul (n := n) (d := d)
  rcases Int.lt_or_le (redN n d) 0 with h' | h'
  · have : redN n d * gcdI n d ≤ redN n d * 1 := Int.mul_le_mul_of_nonpos_left (by omega) (by omega)
    omega
  · have : redN n d * 1 ≤ redN n d * gcdI n d := Int.mul_le_mul_of_nonneg_left hg.1 (by omega)
    omega
theorem red_coprime {n d : Int} (h : 1 ≤ d) : Int.gcd (redN n d) (redD n d) = 1 := by
  have hg := gcdI_pos (n := n) h
  have e : Int.gcd (redN n d * gcdI n d) (redD n d * gcdI n d) = Int.gcd n d := by rw [redN_mul, redD_mul]
  rw [Int.gcd_mul_right] at e
  have e2 : (gcdI n d).natAbs = Int.gcd n d := by unfold gcdI; simp
  rw [e2] at e
  have hp : 0 < Int.gcd n d := Int.gcd_pos_of_ne_zero_right _ (by omega)
  exact Nat.eq_of_mul_eq_mul_right hp (by simpa using e)
theorem dvd_of_cop {q p q' : Int} (h : Int.gcd p q = 1) (hd : q ∣ p * q') : q ∣ q' := by
  rw [← Int.natAbs_dvd_natAbs] at hd ⊢
  rw [Int.natAbs_mul] at hd
  exact Nat.Coprime.dvd_of_dvd_mul_left (by rw [Nat.Coprime, Nat.gcd_comm]; exact h) hd
theorem cop_unique {p q p' q' : Int} (hq : 1 ≤ q) (hq' : 1 ≤ q') (h : Int.gcd p q = 1) (h' : Int.gcd p' q' = 1) (e : p * q' = p' * q) : p = p' ∧ q = q' := by
  have d1 : q ∣ q' := by
    have : q ∣ p * q' := ⟨p', by rw [e, Int.mul_comm]⟩
    exact dvd_of_cop h this
  have d2 : q' ∣ q := by
    have : q' ∣ p' * q := ⟨p, by rw [← e, Int.mul_comm]⟩
    exact dvd_of_cop h' this
  have hqq : q = q' := Int.le_antisymm (Int.le_of_dvd (by omega) d1) (Int.le_of_dvd (by omega) d2)
  subst hqq
  exact ⟨Int.eq_of_mul_eq_mul_right (by omega) e, rfl⟩
/-- Two fractions of one value have one form in lowest terms. -/
theorem red_eq {n d n' d' : Int} (h : 1 ≤ d) (h' : 1 ≤ d') (e : n * d' = n' * d) : redN n d = redN n' d' ∧ redD n d = redD n' d' := by
  have hg := gcdI_pos (n := n) h
  have hg' := gcdI_pos (n := n') h'
  refine cop_unique (redD_pos h).1 (redD_pos h').1 (red_coprime h) (red_coprime h') ?_
  have e2 : (redN n d * redD n' d') * (gcdI n d * gcdI n' d') = (redN n' d' * redD n d) * (gcdI n d * gcdI n' d') := by
    calc (redN n d * redD n' d') * (gcdI n d * gcdI n' d') = (redN n d * gcdI n d) * (redD n' d' * gcdI n' d') := by grind
      _ = (redN n' d' * gcdI n' d') * (redD n d * gcdI n d) := by rw [redN_mul, redD_mul, redN_mul, redD_mul, e]
      _ = _ := by grind
  exact Int.eq_of_mul_eq_mul_right (Int.mul_ne_zero (by omega) (by omega)) e2
theorem red_self {n d : Int} : redN n d * d = n * redD n d := by
  have h1 := redN_mul (n := n) (d := d)
  have h2 := redD_mul (n := n) (d := d)
  calc redN n d * d = redN n d * (redD n d * gcdI n d) := by rw [h2]
    _ = (redN n d * gcdI n d) * redD n d := by grind
    _ = _ := by rw [h1]
end Go.Proofs.Ytkdekpnnnpembaa
