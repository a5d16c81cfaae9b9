/- The clearance at a place: the reference. -/
import Derived.Test.YtkdekpnnnpembaaClear
namespace Go.Proofs.Ytkdekpnnnpembaa
open Go Go.RowKit
def cl0N (xs : List Sup) (gs : List R2) (p : Int) : Int := chordN xs p * grD gs p - grN gs p * spanL xs p
def cl0D (xs : List Sup) (gs : List R2) (p : Int) : Int := spanL xs p * grD gs p
def clN2 (xs : List Sup) (r : R2) (gs : List R2) (p : Int) : Int := redN (cl0N xs gs p) (cl0D xs gs p) * 2 * r.b - r.a * partX xs p * partY xs p * redD (cl0N xs gs p) (cl0D xs gs p)
def clD2 (xs : List Sup) (r : R2) (gs : List R2) (p : Int) : Int := redD (cl0N xs gs p) (cl0D xs gs p) * 2 * r.b
theorem cl_mul (xs : List Sup) (r : R2) (gs : List R2) (p : Int) : clN xs r gs p = clN2 xs r gs p * gcdI (cl0N xs gs p) (cl0D xs gs p) ∧ clD xs r gs p = clD2 xs r gs p * gcdI (cl0N xs gs p) (cl0D xs gs p) := by
  have e1 := redN_mul (n := cl0N xs gs p) (d := cl0D xs gs p)
  have e2 := redD_mul (n := cl0N xs gs p) (d := cl0D xs gs p)
  have e3 : clN xs r gs p = 2 * r.b * cl0N xs gs p - r.a * (partX xs p * partY xs p) * cl0D xs gs p := by
    unfold clN cl0N cl0D
    rw [bend_parts]
    grind
  have e4 : clD xs r gs p = 2 * r.b * cl0D xs gs p := by
    unfold clD cl0D
    grind
  unfold clN2 clD2
  rw [e3, e4]
  generalize redN (cl0N xs gs p) (cl0D xs gs p) = n1 at *
  generalize redD (cl0N xs gs p) (cl0D xs gs p) = d1 at *
  generalize gcdI (cl0N xs gs p) (cl0D xs gs p) = q at *
  generalize cl0N xs gs p = N at *
  generalize cl0D xs gs p = D at *
  subst e1
  subst e2
  constructor <;> grind
theorem cl_eq {xs : List Sup} {r : R2} {gs : List R2} {p : Int} (h1 : 1 ≤ clD xs r gs p) (h2 : 1 ≤ clD2 xs r gs p) : redN (clN2 xs r gs p) (clD2 xs r gs p) = redN (clN xs r gs p) (clD xs r gs p) ∧ redD (clN2 xs r gs p) (clD2 xs r gs p) = redD (clN xs r gs p) (clD xs r gs p) := by
  refine red_eq h2 h1 ?_
  obtain ⟨e1, e2⟩ := cl_mul xs r gs p
  rw [e1, e2]
  grind
theorem cl0_bd {C L G D : Int} (c1 : 0 ≤ C) (c2 : C ≤ 12000000) (l1 : 1 ≤ L) (l2 : L ≤ 3000) (g1 : 0 ≤ G) (g2 : G ≤ 12000000) (d1 : 1 ≤ D) (d2 : D ≤ 3000) :
    (0 ≤ C * D ∧ C * D ≤ 36000000000) ∧ (0 ≤ G * L ∧ G * L ≤ 36000000000) ∧ (1 ≤ L * D ∧ L * D ≤ 9000000) := by
  have m1 := mul_bd (a := C) (b := D) (A := 12000000) (B := 3000) c1 c2 (by omega) d2
  have m2 := mul_bd (a := G) (b := L) (A := 12000000) (B := 3000) g1 g2 (by omega) l2
  have m3 := mul_bd (a := L) (b := D) (A := 3000) (B := 3000) (by omega) l2 (by omega) d2
  have m4 := one_le_mul l1 d1
  exact ⟨⟨m1.1, by omega⟩, ⟨m2.1, by omega⟩, ⟨m4, by omega⟩⟩
theorem cl2_bd {n d a b x y : Int} (n1 : -36000000000 ≤ n) (n2 : n ≤ 36000000000) (d1 : 1 ≤ d) (d2 : d ≤ 9000000) (a1 : 1 ≤ a) (a2 : a ≤ 200) (b1 : 1 ≤ b) (b2 : b ≤ 100000) (x1 : 0 ≤ x) (x2 : x ≤ 3000) (y1 : 0 ≤ y) (y2 : y ≤ 3000) :
    (-7200000000000000 ≤ n * 2 * b ∧ n * 2 * b ≤ 7200000000000000) ∧ (0 ≤ a * x ∧ a * x ≤ 600000) ∧ (0 ≤ a * x * y ∧ a * x * y ≤ 1800000000) ∧ (0 ≤ a * x * y * d ∧ a * x * y * d ≤ 16200000000000000) ∧ (1 ≤ d * 2 * b ∧ d * 2 * b ≤ 1800000000000) := by
  have m1 := smul_bd (a := n * 2) (b := b) (A := 72000000000) (B := 100000) (by omega) (by omega) (by omega) b2
  have m2 := mul_bd (a := a) (b := x) (A := 200) (B := 3000) (by omega) a2 x1 x2
  have m3 := mul_bd (a := a * x) (b := y) (A := 600000) (B := 3000) m2.1 (by omega) y1 y2
  have m4 := mul_bd (a := a * x * y) (b := d) (A := 1800000000) (B := 9000000) m3.1 (by omega) (by omega) d2
  have m5 := mul_bd (a := d * 2) (b := b) (A := 18000000) (B := 100000) (by omega) (by omega) (by omega) b2
  have m6 := one_le_mul (a := d * 2) (b := b) (by omega) b1
  exact ⟨⟨by omega, by omega⟩, ⟨m2.1, by omega⟩, ⟨m3.1, by omega⟩, ⟨m4.1, by omega⟩, ⟨m6, by omega⟩⟩
/-- The bounds of what the reference reckons with. -/
theorem clear_bd {xs : List Sup} {r : R2} {gs : List R2} {p : Int} (ho : onLine xs p = true) (hr : isRope r = true) (hG : groundOk xs gs = true) :
    (1 ≤ clD xs r gs p ∧ clD xs r gs p ≤ 1800000000000) ∧ (-40000000000000000 ≤ clN xs r gs p ∧ clN xs r gs p ≤ 40000000000000000) ∧ (1 ≤ clD2 xs r gs p ∧ clD2 xs r gs p ≤ 1800000000000) ∧ (-40000000000000000 ≤ clN2 xs r gs p ∧ clN2 xs r gs p ≤ 40000000000000000) := by
  have hG1 := ground_at hG (onLine_t ho).2.2.1 (onLine_t ho).2.2.2
  obtain ⟨⟨a1, a2⟩, ⟨b1, b2⟩⟩ := rope_bd hr
  obtain ⟨c1, c2'⟩ := chordN_bd ho
  obtain ⟨s1, s2⟩ := spanL_bd ho
  obtain ⟨x1, x2⟩ := bendX_bd ho
  obtain ⟨g1, g2'⟩ := grN_bd hG1
  obtain ⟨d1, d2⟩ := grD_bd hG1
  obtain ⟨⟨p1, p2⟩, ⟨p3, p4⟩⟩ := parts_bd ho
  obtain ⟨k1, k2, k3⟩ := cl0_bd c1 c2' s1 s2 g1 g2' d1 d2
  have r1 := redN_bd (n := cl0N xs gs p) (d := cl0D xs gs p) (B := 36000000000) k3.1 (by unfold cl0N; omega) (by unfold cl0N; omega)
  have r2 := redD_pos (n := cl0N xs gs p) (d := cl0D xs gs p) k3.1
  have r3 : redD (cl0N xs gs p) (cl0D xs gs p) ≤ 9000000 := by have : cl0D xs gs p = spanL xs p * grD gs p := rfl; omega
  obtain ⟨e1, e2, e3, e4, e5⟩ := cl2_bd r1.1 r1.2 r2.1 r3 a1 a2 b1 b2 p1 p2 p3 p4
  obtain ⟨f1, f2, f3, f4, f5, f6, f7, f8⟩ := cl_bd c1 c2' s1 s2 x1 x2 g1 g2' d1 d2 a1 a2 b1 b2
  refine ⟨⟨f8.1, f8.2⟩, ⟨?_, ?_⟩, ⟨e5.1, e5.2⟩, ⟨?_, ?_⟩⟩
  · unfold clN; omega
  · unfold clN; omega
  · unfold clN2; omega
  · unfold clN2; omega
set_option maxHeartbeats 4000000 in
theorem l4Clear_any (g off n c : Nat) (xs : List Sup) (r : R2) (g2 off2 m c2 : Nat) (gs : List R2) (p : Int) (w : World) (hs : SSup w g off n xs) (hn : n ≤ 1048576) (ht : SR2 w g2 off2 m gs) (hm : m ≤ 1048576) (ho : onLine xs p = true) (hr : isRope r = true) (hG : groundOk xs gs = true) :
    Gv Try.prog 54 #[.slice (some ⟨g, off, none⟩) n c, r.v, .slice (some ⟨g2, off2, none⟩) m c2, .int .i64 p] w (.tuple #[.int .i64 (clN2 xs r gs p), .int .i64 (clD2 xs r gs p)]) := by
  unfold Gv R2.v
  have hfin : Hid ((clN2 xs r gs p, clD2 xs r gs p) = (redN (chordN xs p * ((gB gs p).a - (gA gs p).a) - ((gA gs p).b * ((gB gs p).a - p) + (gB gs p).b * (p - (gA gs p).a)) * spanL xs p) (spanL xs p * ((gB gs p).a - (gA gs p).a)) * 2 * r.b - r.a * partX xs p * partY xs p * redD (chordN xs p * ((gB gs p).a - (gA gs p).a) - ((gA gs p).b * ((gB gs p).a - p) + (gB gs p).b * (p - (gA gs p).a)) * spanL xs p) (spanL xs p * ((gB gs p).a - (gA gs p).a)), redD (chordN xs p * ((gB gs p).a - (gA gs p).a) - ((gA gs p).b * ((gB gs p).a - p) + (gB gs p).b * (p - (gA gs p).a)) * spanL xs p) (spanL xs p * ((gB gs p).a - (gA gs p).a)) * 2 * r.b)) := Lib.hid rfl
  have hl := Lib.hid ht.2.1
  have hg2 := ht.1
  have hG1 := ground_at hG (onLine_t ho).2.2.1 (onLine_t ho).2.2.2
  have hGG := Lib.hid hG1
  obtain ⟨⟨a1, a2⟩, ⟨b1, b2⟩⟩ := rope_bd hr
  obtain ⟨c1, c2'⟩ := chordN_bd ho
  obtain ⟨s1, s2⟩ := spanL_bd ho
  obtain ⟨g1, g2'⟩ := grN_bd hG1
  obtain ⟨d1, d2⟩ := grD_bd hG1
  obtain ⟨⟨p1, p2⟩, ⟨p3, p4⟩⟩ := parts_bd ho
  obtain ⟨⟨k1, k2⟩, ⟨k3, k4⟩, ⟨k5, k6⟩⟩ := cl0_bd c1 c2' s1 s2 g1 g2' d1 d2
  have rN := redN_bd (n := cl0N xs gs p) (d := cl0D xs gs p) (B := 36000000000) k5 (by unfold cl0N; omega) (by unfold cl0N; omega)
  have rD := redD_pos (n := cl0N xs gs p) (d := cl0D xs gs p) k5
  have rD2 : redD (cl0N xs gs p) (cl0D xs gs p) ≤ 9000000 := by have : cl0D xs gs p = spanL xs p * grD gs p := rfl; omega
  obtain ⟨⟨u1, u2⟩, ⟨u3, u4⟩, ⟨u5, u6⟩, ⟨u7, u8⟩, ⟨u9, u10⟩⟩ := cl2_bd rN.1 rN.2 rD.1 rD2 a1 a2 b1 b2 p1 p2 p3 p4
  have hcR : Hid (∀ w, Gv Try.prog 51 #[.int .i64 (cl0N xs gs p), .int .i64 (cl0D xs gs p)] w _) := Lib.hid fun w => reduce_any (cl0N xs gs p) (cl0D xs gs p) k5 (by unfold cl0D; omega) (by unfold cl0N; omega) (by unfold cl0N; omega) w
  have v1 : IntKind.i64.wrap (redN (cl0N xs gs p) (cl0D xs gs p) * 2) = redN (cl0N xs gs p) (cl0D xs gs p) * 2 := Go.IntWalk.i64_in _ (by omega)
  have v2 : IntKind.i64.wrap (redN (cl0N xs gs p) (cl0D xs gs p) * 2 * r.b) = redN (cl0N xs gs p) (cl0D xs gs p) * 2 * r.b := Go.IntWalk.i64_in _ (by omega)
  have v3 : IntKind.i64.wrap (r.a * partX xs p) = r.a * partX xs p := Go.IntWalk.i64_in _ (by omega)
  have v4 : IntKind.i64.wrap (r.a * partX xs p * partY xs p) = r.a * partX xs p * partY xs p := Go.IntWalk.i64_in _ (by omega)
  have v5 : IntKind.i64.wrap (r.a * partX xs p * partY xs p * redD (cl0N xs gs p) (cl0D xs gs p)) = r.a * partX xs p * partY xs p * redD (cl0N xs gs p) (cl0D xs gs p) := Go.IntWalk.i64_in _ (by omega)
  have v6 : IntKind.i64.wrap (redN (cl0N xs gs p) (cl0D xs gs p) * 2 * r.b - r.a * partX xs p * partY xs p * redD (cl0N xs gs p) (cl0D xs gs p)) = redN (cl0N xs gs p) (cl0D xs gs p) * 2 * r.b - r.a * partX xs p * partY xs p * redD (cl0N xs gs p) (cl0D xs gs p) := Go.IntWalk.i64_in _ (by omega)
  have v7 : IntKind.i64.wrap (redD (cl0N xs gs p) (cl0D xs gs p) * 2) = redD (cl0N xs gs p) (cl0D xs gs p) * 2 := Go.IntWalk.i64_in _ (by omega)
  have v8 : IntKind.i64.wrap (redD (cl0N xs gs p) (cl0D xs gs p) * 2 * r.b) = redD (cl0N xs gs p) (cl0D xs gs p) * 2 * r.b := Go.IntWalk.i64_in _ (by omega)
  have v9 : IntKind.i64.wrap (chordN xs p * grD gs p) = chordN xs p * grD gs p := Go.IntWalk.i64_in _ (by omega)
  have v10 : IntKind.i64.wrap (grN gs p * spanL xs p) = grN gs p * spanL xs p := Go.IntWalk.i64_in _ (by omega)
  have v11 : IntKind.i64.wrap (chordN xs p * grD gs p - grN gs p * spanL xs p) = chordN xs p * grD gs p - grN gs p * spanL xs p := Go.IntWalk.i64_in _ (by omega)
  have v12 : IntKind.i64.wrap (spanL xs p * grD gs p) = spanL xs p * grD gs p := Go.IntWalk.i64_in _ (by omega)
  have hcC : Hid (∀ w, SSup w g off n xs → Gv Try.prog 63 #[.slice (some ⟨g, off, none⟩) n c, .int .i64 p] w (.tuple #[.int .i64 (chordN xs p), .int .i64 (spanL xs p)])) := Lib.hid fun w h => l2Chord_any g off n c xs p w h hn ho
  have hcP : Hid (∀ w, SSup w g off n xs → Gv Try.prog 47 #[.slice (some ⟨g, off, none⟩) n c, .int .i64 p] w (.tuple #[.int .i64 (partX xs p), .int .i64 (partY xs p)])) := Lib.hid fun w h => l4Parts_any g off n c xs p w h hn ho
  simp only [cl0N, cl0D] at hcR v1 v2 v5 v6 v7 v8
  simp only [grN, grD] at hcR v1 v2 v5 v6 v7 v8 v9 v10 v11 v12
  have hlt0 := hG1.lt
  have h2 : 1 < m := by have := hl.out; omega
  clear k1 k2 k3 k4 k5 k6 rN rD rD2 u1 u2 u3 u4 u5 u6 u7 u8 u9 u10 c1 c2' s1 s2 g1 g2' d1 d2 a1 a2 b1 b2 p1 p2 p3 p4 hG1 ho hr hG
  generalize chordN xs p = C at *
  generalize spanL xs p = L at *
  generalize partX xs p = X at *
  generalize partY xs p = Y at *
  go_enter Try.func54, Try.ntmps54
  go_wp2_with (first | (go_at_call 63; refine (hcC.out _ (by first | exact hs | exact hs.later _ | exact hs.alloc _ | exact (hs.alloc _).later _ | exact (hs.later _).alloc _ | exact ((hs.later _).alloc _).later _ | exact ((hs.alloc _).later _).alloc _ | exact (hs.alloc _).alloc _ | exact ((hs.alloc _).alloc _).later _ | exact (((hs.alloc _).later _).alloc _).later _)).on ?_; intro xa; clear hcC) | (go_at_call 47; refine (hcP.out _ (by first | exact hs | exact hs.later _ | exact hs.alloc _ | exact (hs.alloc _).later _ | exact (hs.later _).alloc _ | exact ((hs.later _).alloc _).later _ | exact ((hs.alloc _).later _).alloc _ | exact (hs.alloc _).alloc _ | exact ((hs.alloc _).alloc _).later _ | exact (((hs.alloc _).later _).alloc _).later _)).onL ?_; intro xb; clear hcP))
  go_loopw [14] (fun i wr => ∃ k : Nat, k + 1 < m ∧ i = .int .i64 (k : Int) ∧ Below (w.alloc (.cells #[.int .i64 r.a, .int .i64 r.b] 25)).heap.size (w.alloc (.cells #[.int .i64 r.a, .int .i64 r.b] 25)) wr ∧ Hid (∀ j, j < k → ∀ q : R2, gs[j + 1]? = some q → q.a < p)) (fun i _ => m - (intOf i).toNat)
  case atStart => exact ⟨0, by omega, rfl, (by repeat (with_reducible first | exact Below.refl _ _ | refine bw_later ?_ _ | refine bw_alloc ?_ _ | refine bw_drew ?_ | refine bw_set ?_ (Nat.le_refl _) _ | refine bw_set ?_ ?_ _ | exact Nat.le_refl _ | exact later_size _ _ | refine Nat.le_trans ?_ (later_size _ _) | refine Nat.le_trans ?_ (size_alloc_le _ _) | refine Nat.le_trans ?_ (Nat.le_add_right _ _))), fun j hj => absurd hj (by omega)⟩
  case round =>
    obtain ⟨k, hk, rfl, hbw, ha⟩ := hrel
    obtain ⟨y, rfl⟩ := exists_later hbw
    clear hbw
    have hgy := lt_later_1_0 w _ y g2 hg2
    obtain ⟨q, hq0⟩ := ht.at_ (k := k + 1) hk
    obtain ⟨c0, c1⟩ := ht.2.2 (k + 1) q hq0
    have hq := Lib.hid hq0
    clear hq0
    have iw : IntKind.i64.wrap ((k : Int) + 1) = (k : Int) + 1 := Go.IntWalk.i64_in _ (by omega)
    have i1 : (0 : Int) ≤ (k : Int) + 1 := by omega
    have i2 : (k : Int) + 1 < (m : Int) := by omega
    have i3 : k < m := by omega
    by_cases hlt : q.a < p
    · have hstep : Hid (∀ j, j < k + 1 → ∀ q : R2, gs[j + 1]? = some q → q.a < p) := Lib.hid fun j hj q' hq' => by
        rcases Nat.lt_or_ge j k with h | h
        · exact ha.out j h q' hq'
        · obtain rfl : j = k := by omega
          rw [hq.out] at hq'
          cases hq'
          exact hlt
      have hk2 : k + 1 + 1 < m := by
        rcases Nat.lt_or_ge (k + 1 + 1) m with h | h
        · exact h
        · exfalso
          have e1 := hl.out
          have e2 := hGG.out.lt
          have := hstep.out (gI gs p) (by omega) _ hGG.out.b
          have := hGG.out.le.2
          omega
      go_wp2
      go_roundw
      case rel => exact ⟨k + 1, hk2, by go_num, (by repeat (with_reducible first | exact Below.refl _ _ | refine bw_later ?_ _ | refine bw_alloc ?_ _ | refine bw_drew ?_ | refine bw_set ?_ (Nat.le_refl _) _ | refine bw_set ?_ ?_ _ | exact Nat.le_refl _ | exact later_size _ _ | refine Nat.le_trans ?_ (later_size _ _) | refine Nat.le_trans ?_ (size_alloc_le _ _) | refine Nat.le_trans ?_ (Nat.le_add_right _ _))), hstep⟩
      case measure => simp [intOf]; omega
    · have hkk : gI gs p = k := spanI_at hq.out ha.out (by show p ≤ q.a; omega)
      obtain ⟨-, xa, xb, ⟨le1, le2⟩, up, ⟨e1, e2⟩, ⟨ha1, ha2⟩, ⟨hb1, hb2⟩⟩ := hGG.out
      rw [hkk] at xa xb
      obtain ⟨a0, a1⟩ := ht.2.2 _ _ xa
      have hqb : q = gB gs p := by rw [hq.out] at xb; exact Option.some.inj xb
      subst hqb
      clear hkk xa xb hq
      generalize gA gs p = A at *
      generalize gB gs p = B at *
      obtain ⟨m1, m2⟩ := mul_bd (a := A.b) (b := B.a - p) (A := 2000) (B := 3000) (by omega) (by omega) (by omega) (by omega)
      obtain ⟨m3, m4⟩ := mul_bd (a := B.b) (b := p - A.a) (A := 2000) (B := 3000) (by omega) (by omega) (by omega) (by omega)
      have w1 : IntKind.i64.wrap (A.b * (B.a - p)) = A.b * (B.a - p) := Go.IntWalk.i64_in _ (by omega)
      have w2 : IntKind.i64.wrap (B.b * (p - A.a)) = B.b * (p - A.a) := Go.IntWalk.i64_in _ (by omega)
      have w3 : IntKind.i64.wrap (A.b * (B.a - p) + B.b * (p - A.a)) = A.b * (B.a - p) + B.b * (p - A.a) := Go.IntWalk.i64_in _ (by omega)
      have w4 : IntKind.i64.wrap (B.a - p) = B.a - p := Go.IntWalk.i64_in _ (by omega)
      have w5 : IntKind.i64.wrap (p - A.a) = p - A.a := Go.IntWalk.i64_in _ (by omega)
      have w6 : IntKind.i64.wrap (B.a - A.a) = B.a - A.a := Go.IntWalk.i64_in _ (by omega)
      clear m1 m2 m3 m4 le1 le2 up e1 e2 ha1 ha2 hb1 hb2 ha
      go_wp2
      (refine wp_region_C (Below ((w.alloc (.cells #[.int .i64 r.a, .int .i64 r.b] 25))).heap.size ((w.alloc (.cells #[.int .i64 r.a, .int .i64 r.b] 25)))) (by kernel_rfl) ?_)
      ((refine step_read (i := 0) (by kernel_rfl) (by kernel_rfl) rfl (by repeat (with_reducible first | exact Below.refl _ _ | refine bw_later ?_ _ | refine bw_alloc ?_ _ | refine bw_drew ?_ | refine bw_set ?_ (Nat.le_refl _) _ | refine bw_set ?_ ?_ _ | exact Nat.le_refl _ | exact later_size _ _ | refine Nat.le_trans ?_ (later_size _ _) | refine Nat.le_trans ?_ (size_alloc_le _ _) | refine Nat.le_trans ?_ (Nat.le_add_right _ _))) rfl (fun K hK => ?_); apply Exists.intro; refine ⟨fun x => ?_, ?_⟩; focus (go_simp; (try go_bits); (try go_simp); (try rfl))); (go_simp; (try go_bits); refine hK _ ?_; clear hK K); (refine step_read (i := 1) (by kernel_rfl) (by kernel_rfl) rfl (by repeat (with_reducible first | exact Below.refl _ _ | refine bw_later ?_ _ | refine bw_alloc ?_ _ | refine bw_drew ?_ | refine bw_set ?_ (Nat.le_refl _) _ | refine bw_set ?_ ?_ _ | exact Nat.le_refl _ | exact later_size _ _ | refine Nat.le_trans ?_ (later_size _ _) | refine Nat.le_trans ?_ (size_alloc_le _ _) | refine Nat.le_trans ?_ (Nat.le_add_right _ _))) rfl (fun K hK => ?_); apply Exists.intro; refine ⟨fun x => ?_, ?_⟩; focus (go_simp; (try go_bits); (try go_simp); (try rfl))); (go_simp; (try go_bits); refine hK _ ?_; clear hK K); (refine step_read (i := 2) (by kernel_rfl) (by kernel_rfl) rfl (by repeat (with_reducible first | exact Below.refl _ _ | refine bw_later ?_ _ | refine bw_alloc ?_ _ | refine bw_drew ?_ | refine bw_set ?_ (Nat.le_refl _) _ | refine bw_set ?_ ?_ _ | exact Nat.le_refl _ | exact later_size _ _ | refine Nat.le_trans ?_ (later_size _ _) | refine Nat.le_trans ?_ (size_alloc_le _ _) | refine Nat.le_trans ?_ (Nat.le_add_right _ _))) rfl (fun K hK => ?_); apply Exists.intro; refine ⟨fun x => ?_, ?_⟩; focus (go_simp; (try go_bits); (try go_simp); (try rfl))); (go_simp; (try go_bits); refine hK _ ?_; clear hK K); (refine step_read (i := 3) (by kernel_rfl) (by kernel_rfl) rfl (by repeat (with_reducible first | exact Below.refl _ _ | refine bw_later ?_ _ | refine bw_alloc ?_ _ | refine bw_drew ?_ | refine bw_set ?_ (Nat.le_refl _) _ | refine bw_set ?_ ?_ _ | exact Nat.le_refl _ | exact later_size _ _ | refine Nat.le_trans ?_ (later_size _ _) | refine Nat.le_trans ?_ (size_alloc_le _ _) | refine Nat.le_trans ?_ (Nat.le_add_right _ _))) rfl (fun K hK => ?_); apply Exists.intro; refine ⟨fun x => ?_, ?_⟩; focus (go_simp; (try go_bits); (try go_simp); (try rfl))); (go_simp; (try go_bits); refine hK _ ?_; clear hK K); (refine step_read (i := 4) (by kernel_rfl) (by kernel_rfl) rfl (by repeat (with_reducible first | exact Below.refl _ _ | refine bw_later ?_ _ | refine bw_alloc ?_ _ | refine bw_drew ?_ | refine bw_set ?_ (Nat.le_refl _) _ | refine bw_set ?_ ?_ _ | exact Nat.le_refl _ | exact later_size _ _ | refine Nat.le_trans ?_ (later_size _ _) | refine Nat.le_trans ?_ (size_alloc_le _ _) | refine Nat.le_trans ?_ (Nat.le_add_right _ _))) rfl (fun K hK => ?_); apply Exists.intro; refine ⟨fun x => ?_, ?_⟩; focus (go_simp; (try go_bits); (try go_simp); (try rfl))); (go_simp; (try go_bits); refine hK _ ?_; clear hK K); (refine step_read (i := 5) (by kernel_rfl) (by kernel_rfl) rfl (by repeat (with_reducible first | exact Below.refl _ _ | refine bw_later ?_ _ | refine bw_alloc ?_ _ | refine bw_drew ?_ | refine bw_set ?_ (Nat.le_refl _) _ | refine bw_set ?_ ?_ _ | exact Nat.le_refl _ | exact later_size _ _ | refine Nat.le_trans ?_ (later_size _ _) | refine Nat.le_trans ?_ (size_alloc_le _ _) | refine Nat.le_trans ?_ (Nat.le_add_right _ _))) rfl (fun K hK => ?_); apply Exists.intro; refine ⟨fun x => ?_, ?_⟩; focus (go_simp; (try go_bits); (try go_simp); (try rfl))); (go_simp; (try go_bits); refine hK _ ?_; clear hK K); (refine step_read (i := 6) (by kernel_rfl) (by kernel_rfl) rfl (by repeat (with_reducible first | exact Below.refl _ _ | refine bw_later ?_ _ | refine bw_alloc ?_ _ | refine bw_drew ?_ | refine bw_set ?_ (Nat.le_refl _) _ | refine bw_set ?_ ?_ _ | exact Nat.le_refl _ | exact later_size _ _ | refine Nat.le_trans ?_ (later_size _ _) | refine Nat.le_trans ?_ (size_alloc_le _ _) | refine Nat.le_trans ?_ (Nat.le_add_right _ _))) rfl (fun K hK => ?_); apply Exists.intro; refine ⟨fun x => ?_, ?_⟩; focus (go_simp; (try go_bits); (try go_simp); (try rfl))); (go_simp; (try go_bits); refine hK _ ?_; clear hK K); (refine step_read (i := 7) (by kernel_rfl) (by kernel_rfl) rfl (by repeat (with_reducible first | exact Below.refl _ _ | refine bw_later ?_ _ | refine bw_alloc ?_ _ | refine bw_drew ?_ | refine bw_set ?_ (Nat.le_refl _) _ | refine bw_set ?_ ?_ _ | exact Nat.le_refl _ | exact later_size _ _ | refine Nat.le_trans ?_ (later_size _ _) | refine Nat.le_trans ?_ (size_alloc_le _ _) | refine Nat.le_trans ?_ (Nat.le_add_right _ _))) rfl (fun K hK => ?_); apply Exists.intro; refine ⟨fun x => ?_, ?_⟩; focus (go_simp; (try go_bits); (try go_simp); (try rfl))); (go_simp; (try go_bits); refine hK _ ?_; clear hK K); (refine step_read (i := 8) (by kernel_rfl) (by kernel_rfl) rfl (by repeat (with_reducible first | exact Below.refl _ _ | refine bw_later ?_ _ | refine bw_alloc ?_ _ | refine bw_drew ?_ | refine bw_set ?_ (Nat.le_refl _) _ | refine bw_set ?_ ?_ _ | exact Nat.le_refl _ | exact later_size _ _ | refine Nat.le_trans ?_ (later_size _ _) | refine Nat.le_trans ?_ (size_alloc_le _ _) | refine Nat.le_trans ?_ (Nat.le_add_right _ _))) rfl (fun K hK => ?_); apply Exists.intro; refine ⟨fun x => ?_, ?_⟩; focus (go_simp; (try go_bits); (try go_simp); (try rfl))); (go_simp; (try go_bits); refine hK _ ?_; clear hK K))
      refine step_two (i := 9) (i' := 10) (by kernel_rfl) rfl rfl (by repeat (with_reducible first | exact Below.refl _ _ | refine bw_later ?_ _ | refine bw_alloc ?_ _ | refine bw_drew ?_ | refine bw_set ?_ (Nat.le_refl _) _ | refine bw_set ?_ ?_ _ | exact Nat.le_refl _ | exact later_size _ _ | refine Nat.le_trans ?_ (later_size _ _) | refine Nat.le_trans ?_ (size_alloc_le _ _) | refine Nat.le_trans ?_ (Nat.le_add_right _ _))) (fun K hK => ?_) (fun K hK => ?_); (focus (go_wp2; (try refine hK _ _ ?_); (try clear hK K); (refine step_one (i := 10) (by kernel_rfl) rfl (by repeat (with_reducible first | exact Below.refl _ _ | refine bw_later ?_ _ | refine bw_alloc ?_ _ | refine bw_drew ?_ | refine bw_set ?_ (Nat.le_refl _) _ | refine bw_set ?_ ?_ _ | exact Nat.le_refl _ | exact later_size _ _ | refine Nat.le_trans ?_ (later_size _ _) | refine Nat.le_trans ?_ (size_alloc_le _ _) | refine Nat.le_trans ?_ (Nat.le_add_right _ _))) (fun K hK => ?_); go_wp2; (try refine hK _ _ ?_); (try clear hK K)); (refine step_one (i := 11) (by kernel_rfl) rfl (by repeat (with_reducible first | exact Below.refl _ _ | refine bw_later ?_ _ | refine bw_alloc ?_ _ | refine bw_drew ?_ | refine bw_set ?_ (Nat.le_refl _) _ | refine bw_set ?_ ?_ _ | exact Nat.le_refl _ | exact later_size _ _ | refine Nat.le_trans ?_ (later_size _ _) | refine Nat.le_trans ?_ (size_alloc_le _ _) | refine Nat.le_trans ?_ (Nat.le_add_right _ _))) (fun K hK => ?_); go_wp2; (try refine hK _ _ ?_); (try clear hK K)); (refine step_one (i := 12) (by kernel_rfl) rfl (by repeat (with_reducible first | exact Below.refl _ _ | refine bw_later ?_ _ | refine bw_alloc ?_ _ | refine bw_drew ?_ | refine bw_set ?_ (Nat.le_refl _) _ | refine bw_set ?_ ?_ _ | exact Nat.le_refl _ | exact later_size _ _ | refine Nat.le_trans ?_ (later_size _ _) | refine Nat.le_trans ?_ (size_alloc_le _ _) | refine Nat.le_trans ?_ (Nat.le_add_right _ _))) (fun K hK => ?_); go_wp2; (try refine hK _ _ ?_); (try clear hK K)); (refine step_end (by kernel_rfl) (by repeat (with_reducible first | exact Below.refl _ _ | refine bw_later ?_ _ | refine bw_alloc ?_ _ | refine bw_drew ?_ | refine bw_set ?_ (Nat.le_refl _) _ | refine bw_set ?_ ?_ _ | exact Nat.le_refl _ | exact later_size _ _ | refine Nat.le_trans ?_ (later_size _ _) | refine Nat.le_trans ?_ (size_alloc_le _ _) | refine Nat.le_trans ?_ (Nat.le_add_right _ _))) ?_); go_wp2_with (first | (go_at_call 51; refine (hcR.out _).onB (w0 := (w.alloc (.cells #[.int .i64 r.a, .int .i64 r.b] 25))) (by repeat (with_reducible first | exact Below.refl _ _ | refine bw_later ?_ _ | refine bw_alloc ?_ _ | refine bw_drew ?_ | refine bw_set ?_ (Nat.le_refl _) _ | refine bw_set ?_ ?_ _ | exact Nat.le_refl _ | exact later_size _ _ | refine Nat.le_trans ?_ (later_size _ _) | refine Nat.le_trans ?_ (size_alloc_le _ _) | refine Nat.le_trans ?_ (Nat.le_add_right _ _))) ?_; intro xq) | ((with_reducible refine wp_region_later (by kernel_rfl) (by kernel_rfl) ?_); (repeat (go_big_quiet_step (fail))); refine wpQuiet_nil ?_; rintro _ ⟨xr, rfl⟩)); go_ret2; have e := hfin.out; simp only [Prod.mk.injEq] at e; exact ⟨by rw [e.1, e.2]; rfl, (by repeat (with_reducible first | exact Below.refl _ _ | refine bw_later ?_ _ | refine bw_alloc ?_ _ | refine bw_drew ?_ | refine bw_set ?_ (Nat.le_refl _) _ | refine bw_set ?_ ?_ _ | exact Nat.le_refl _ | exact later_size _ _ | refine Nat.le_trans ?_ (later_size _ _) | refine Nat.le_trans ?_ (size_alloc_le _ _) | refine Nat.le_trans ?_ (Nat.le_add_right _ _)))⟩)); (focus (go_wp2; (try refine hK _ _ ?_); (try clear hK K); (refine step_one (i := 9) (by kernel_rfl) rfl (by repeat (with_reducible first | exact Below.refl _ _ | refine bw_later ?_ _ | refine bw_alloc ?_ _ | refine bw_drew ?_ | refine bw_set ?_ (Nat.le_refl _) _ | refine bw_set ?_ ?_ _ | exact Nat.le_refl _ | exact later_size _ _ | refine Nat.le_trans ?_ (later_size _ _) | refine Nat.le_trans ?_ (size_alloc_le _ _) | refine Nat.le_trans ?_ (Nat.le_add_right _ _))) (fun K hK => ?_); go_wp2; (try refine hK _ _ ?_); (try clear hK K)); (refine step_one (i := 11) (by kernel_rfl) rfl (by repeat (with_reducible first | exact Below.refl _ _ | refine bw_later ?_ _ | refine bw_alloc ?_ _ | refine bw_drew ?_ | refine bw_set ?_ (Nat.le_refl _) _ | refine bw_set ?_ ?_ _ | exact Nat.le_refl _ | exact later_size _ _ | refine Nat.le_trans ?_ (later_size _ _) | refine Nat.le_trans ?_ (size_alloc_le _ _) | refine Nat.le_trans ?_ (Nat.le_add_right _ _))) (fun K hK => ?_); go_wp2; (try refine hK _ _ ?_); (try clear hK K)); (refine step_one (i := 12) (by kernel_rfl) rfl (by repeat (with_reducible first | exact Below.refl _ _ | refine bw_later ?_ _ | refine bw_alloc ?_ _ | refine bw_drew ?_ | refine bw_set ?_ (Nat.le_refl _) _ | refine bw_set ?_ ?_ _ | exact Nat.le_refl _ | exact later_size _ _ | refine Nat.le_trans ?_ (later_size _ _) | refine Nat.le_trans ?_ (size_alloc_le _ _) | refine Nat.le_trans ?_ (Nat.le_add_right _ _))) (fun K hK => ?_); go_wp2; (try refine hK _ _ ?_); (try clear hK K)); (refine step_end (by kernel_rfl) (by repeat (with_reducible first | exact Below.refl _ _ | refine bw_later ?_ _ | refine bw_alloc ?_ _ | refine bw_drew ?_ | refine bw_set ?_ (Nat.le_refl _) _ | refine bw_set ?_ ?_ _ | exact Nat.le_refl _ | exact later_size _ _ | refine Nat.le_trans ?_ (later_size _ _) | refine Nat.le_trans ?_ (size_alloc_le _ _) | refine Nat.le_trans ?_ (Nat.le_add_right _ _))) ?_); go_wp2_with (first | (go_at_call 51; refine (hcR.out _).onB (w0 := (w.alloc (.cells #[.int .i64 r.a, .int .i64 r.b] 25))) (by repeat (with_reducible first | exact Below.refl _ _ | refine bw_later ?_ _ | refine bw_alloc ?_ _ | refine bw_drew ?_ | refine bw_set ?_ (Nat.le_refl _) _ | refine bw_set ?_ ?_ _ | exact Nat.le_refl _ | exact later_size _ _ | refine Nat.le_trans ?_ (later_size _ _) | refine Nat.le_trans ?_ (size_alloc_le _ _) | refine Nat.le_trans ?_ (Nat.le_add_right _ _))) ?_; intro xq) | ((with_reducible refine wp_region_later (by kernel_rfl) (by kernel_rfl) ?_); (repeat (go_big_quiet_step (fail))); refine wpQuiet_nil ?_; rintro _ ⟨xr, rfl⟩)); go_ret2; have e := hfin.out; simp only [Prod.mk.injEq] at e; exact ⟨by rw [e.1, e.2]; rfl, (by repeat (with_reducible first | exact Below.refl _ _ | refine bw_later ?_ _ | refine bw_alloc ?_ _ | refine bw_drew ?_ | refine bw_set ?_ (Nat.le_refl _) _ | refine bw_set ?_ ?_ _ | exact Nat.le_refl _ | exact later_size _ _ | refine Nat.le_trans ?_ (later_size _ _) | refine Nat.le_trans ?_ (size_alloc_le _ _) | refine Nat.le_trans ?_ (Nat.le_add_right _ _)))⟩))
theorem s_ClearanceAt_any (g off n c : Nat) (xs : List Sup) (r : R2) (g2 off2 m c2 : Nat) (gs : List R2) (p : Int) (w : World) (hs : SSup w g off n xs) (hn : n ≤ 1048576) (ht : SR2 w g2 off2 m gs) (hm : m ≤ 1048576) : Gv Try.prog 33 #[.slice (some ⟨g, off, none⟩) n c, r.v, .slice (some ⟨g2, off2, none⟩) m c2, .int .i64 p] w (.tuple #[.int .i64 ((clearF xs r gs p)).1, .int .i64 (((clearF xs r gs p)).2).1, .bool (((clearF xs r gs p)).2).2]) := by
  unfold Gv
  cases h0 : onLine xs p
  · have hfin := Lib.hid (show clearF xs r gs p = (0, 0, false) by simp [clearF, h0])
    unfold R2.v
    go_enter Try.func33, Try.ntmps33
    go_wp2_with (first | (go_at_call 45; (first | refine (l4Asked_any g off n c xs r p _ (by first | exact hs | exact hs.later _ | exact hs.alloc _ | exact (hs.alloc _).later _ | exact (hs.later _).alloc _ | exact ((hs.later _).alloc _).later _ | exact ((hs.alloc _).later _).alloc _ | exact (hs.alloc _).alloc _ | exact ((hs.alloc _).alloc _).later _ | exact (((hs.alloc _).later _).alloc _).later _) hn).onL ?_ | refine (l4Asked_any g off n c xs r p _ (by first | exact hs | exact hs.later _ | exact hs.alloc _ | exact (hs.alloc _).later _ | exact (hs.later _).alloc _ | exact ((hs.later _).alloc _).later _ | exact ((hs.alloc _).later _).alloc _ | exact (hs.alloc _).alloc _ | exact ((hs.alloc _).alloc _).later _ | exact (((hs.alloc _).later _).alloc _).later _) hn).on ?_); intro xq) | (go_at_call 39; (first | refine (s_ground_any g off n c xs g2 off2 m c2 gs _ (by first | exact hs | exact hs.later _ | exact hs.alloc _ | exact (hs.alloc _).later _ | exact (hs.later _).alloc _ | exact ((hs.later _).alloc _).later _ | exact ((hs.alloc _).later _).alloc _ | exact (hs.alloc _).alloc _ | exact ((hs.alloc _).alloc _).later _ | exact (((hs.alloc _).later _).alloc _).later _) hn (by first | exact ht | exact ht.later _ | exact ht.alloc _ | exact (ht.alloc _).later _ | exact (ht.later _).alloc _ | exact ((ht.later _).alloc _).later _ | exact ((ht.alloc _).later _).alloc _ | exact (ht.alloc _).alloc _ | exact ((ht.alloc _).alloc _).later _ | exact (((ht.alloc _).later _).alloc _).later _) hm).onL ?_ | refine (s_ground_any g off n c xs g2 off2 m c2 gs _ (by first | exact hs | exact hs.later _ | exact hs.alloc _ | exact (hs.alloc _).later _ | exact (hs.later _).alloc _ | exact ((hs.later _).alloc _).later _ | exact ((hs.alloc _).later _).alloc _ | exact (hs.alloc _).alloc _ | exact ((hs.alloc _).alloc _).later _ | exact (((hs.alloc _).later _).alloc _).later _) hn (by first | exact ht | exact ht.later _ | exact ht.alloc _ | exact (ht.alloc _).later _ | exact (ht.later _).alloc _ | exact ((ht.later _).alloc _).later _ | exact ((ht.alloc _).later _).alloc _ | exact (ht.alloc _).alloc _ | exact ((ht.alloc _).alloc _).later _ | exact (((ht.alloc _).later _).alloc _).later _) hm).on ?_); intro xq) | (go_at_call 54; (first | refine (l4Clear_any g off n c xs r g2 off2 m c2 gs p _ (by first | exact hs | exact hs.later _ | exact hs.alloc _ | exact (hs.alloc _).later _ | exact (hs.later _).alloc _ | exact ((hs.later _).alloc _).later _ | exact ((hs.alloc _).later _).alloc _ | exact (hs.alloc _).alloc _ | exact ((hs.alloc _).alloc _).later _ | exact (((hs.alloc _).later _).alloc _).later _) hn (by first | exact ht | exact ht.later _ | exact ht.alloc _ | exact (ht.alloc _).later _ | exact (ht.later _).alloc _ | exact ((ht.later _).alloc _).later _ | exact ((ht.alloc _).later _).alloc _ | exact (ht.alloc _).alloc _ | exact ((ht.alloc _).alloc _).later _ | exact (((ht.alloc _).later _).alloc _).later _) hm h0 h1 h2).onL ?_ | refine (l4Clear_any g off n c xs r g2 off2 m c2 gs p _ (by first | exact hs | exact hs.later _ | exact hs.alloc _ | exact (hs.alloc _).later _ | exact (hs.later _).alloc _ | exact ((hs.later _).alloc _).later _ | exact ((hs.alloc _).later _).alloc _ | exact (hs.alloc _).alloc _ | exact ((hs.alloc _).alloc _).later _ | exact (((hs.alloc _).later _).alloc _).later _) hn (by first | exact ht | exact ht.later _ | exact ht.alloc _ | exact (ht.alloc _).later _ | exact (ht.later _).alloc _ | exact ((ht.later _).alloc _).later _ | exact ((ht.alloc _).later _).alloc _ | exact (ht.alloc _).alloc _ | exact ((ht.alloc _).alloc _).later _ | exact (((ht.alloc _).later _).alloc _).later _) hm h0 h1 h2).on ?_); intro xq) | (go_at_call 51; (first | refine (reduce_any (clN2 xs r gs p) (clD2 xs r gs p) (by omega) (by omega) (by omega) (by omega) _).onL ?_ | refine (reduce_any (clN2 xs r gs p) (clD2 xs r gs p) (by omega) (by omega) (by omega) (by omega) _).on ?_); intro xq) | ((with_reducible refine wp_region_later (by kernel_rfl) (by kernel_rfl) ?_); (repeat (go_big_quiet_step (fail))); refine wpQuiet_nil ?_; rintro _ ⟨xr, rfl⟩))
    all_goals (go_ret3; exact ⟨by rw [hfin.out]; try rfl, (by repeat (with_reducible first | exact Below.refl _ _ | refine bw_later ?_ _ | refine bw_alloc ?_ _ | refine bw_drew ?_ | refine bw_set ?_ (Nat.le_refl _) _ | refine bw_set ?_ ?_ _ | exact Nat.le_refl _ | exact later_size _ _ | refine Nat.le_trans ?_ (later_size _ _) | refine Nat.le_trans ?_ (size_alloc_le _ _) | refine Nat.le_trans ?_ (Nat.le_add_right _ _)))⟩)
  cases h1 : isRope r
  · have hfin := Lib.hid (show clearF xs r gs p = (0, 0, false) by simp [clearF, h0, h1])
    unfold R2.v
    go_enter Try.func33, Try.ntmps33
    go_wp2_with (first | (go_at_call 45; (first | refine (l4Asked_any g off n c xs r p _ (by first | exact hs | exact hs.later _ | exact hs.alloc _ | exact (hs.alloc _).later _ | exact (hs.later _).alloc _ | exact ((hs.later _).alloc _).later _ | exact ((hs.alloc _).later _).alloc _ | exact (hs.alloc _).alloc _ | exact ((hs.alloc _).alloc _).later _ | exact (((hs.alloc _).later _).alloc _).later _) hn).onL ?_ | refine (l4Asked_any g off n c xs r p _ (by first | exact hs | exact hs.later _ | exact hs.alloc _ | exact (hs.alloc _).later _ | exact (hs.later _).alloc _ | exact ((hs.later _).alloc _).later _ | exact ((hs.alloc _).later _).alloc _ | exact (hs.alloc _).alloc _ | exact ((hs.alloc _).alloc _).later _ | exact (((hs.alloc _).later _).alloc _).later _) hn).on ?_); intro xq) | (go_at_call 39; (first | refine (s_ground_any g off n c xs g2 off2 m c2 gs _ (by first | exact hs | exact hs.later _ | exact hs.alloc _ | exact (hs.alloc _).later _ | exact (hs.later _).alloc _ | exact ((hs.later _).alloc _).later _ | exact ((hs.alloc _).later _).alloc _ | exact (hs.alloc _).alloc _ | exact ((hs.alloc _).alloc _).later _ | exact (((hs.alloc _).later _).alloc _).later _) hn (by first | exact ht | exact ht.later _ | exact ht.alloc _ | exact (ht.alloc _).later _ | exact (ht.later _).alloc _ | exact ((ht.later _).alloc _).later _ | exact ((ht.alloc _).later _).alloc _ | exact (ht.alloc _).alloc _ | exact ((ht.alloc _).alloc _).later _ | exact (((ht.alloc _).later _).alloc _).later _) hm).onL ?_ | refine (s_ground_any g off n c xs g2 off2 m c2 gs _ (by first | exact hs | exact hs.later _ | exact hs.alloc _ | exact (hs.alloc _).later _ | exact (hs.later _).alloc _ | exact ((hs.later _).alloc _).later _ | exact ((hs.alloc _).later _).alloc _ | exact (hs.alloc _).alloc _ | exact ((hs.alloc _).alloc _).later _ | exact (((hs.alloc _).later _).alloc _).later _) hn (by first | exact ht | exact ht.later _ | exact ht.alloc _ | exact (ht.alloc _).later _ | exact (ht.later _).alloc _ | exact ((ht.later _).alloc _).later _ | exact ((ht.alloc _).later _).alloc _ | exact (ht.alloc _).alloc _ | exact ((ht.alloc _).alloc _).later _ | exact (((ht.alloc _).later _).alloc _).later _) hm).on ?_); intro xq) | (go_at_call 54; (first | refine (l4Clear_any g off n c xs r g2 off2 m c2 gs p _ (by first | exact hs | exact hs.later _ | exact hs.alloc _ | exact (hs.alloc _).later _ | exact (hs.later _).alloc _ | exact ((hs.later _).alloc _).later _ | exact ((hs.alloc _).later _).alloc _ | exact (hs.alloc _).alloc _ | exact ((hs.alloc _).alloc _).later _ | exact (((hs.alloc _).later _).alloc _).later _) hn (by first | exact ht | exact ht.later _ | exact ht.alloc _ | exact (ht.alloc _).later _ | exact (ht.later _).alloc _ | exact ((ht.later _).alloc _).later _ | exact ((ht.alloc _).later _).alloc _ | exact (ht.alloc _).alloc _ | exact ((ht.alloc _).alloc _).later _ | exact (((ht.alloc _).later _).alloc _).later _) hm h0 h1 h2).onL ?_ | refine (l4Clear_any g off n c xs r g2 off2 m c2 gs p _ (by first | exact hs | exact hs.later _ | exact hs.alloc _ | exact (hs.alloc _).later _ | exact (hs.later _).alloc _ | exact ((hs.later _).alloc _).later _ | exact ((hs.alloc _).later _).alloc _ | exact (hs.alloc _).alloc _ | exact ((hs.alloc _).alloc _).later _ | exact (((hs.alloc _).later _).alloc _).later _) hn (by first | exact ht | exact ht.later _ | exact ht.alloc _ | exact (ht.alloc _).later _ | exact (ht.later _).alloc _ | exact ((ht.later _).alloc _).later _ | exact ((ht.alloc _).later _).alloc _ | exact (ht.alloc _).alloc _ | exact ((ht.alloc _).alloc _).later _ | exact (((ht.alloc _).later _).alloc _).later _) hm h0 h1 h2).on ?_); intro xq) | (go_at_call 51; (first | refine (reduce_any (clN2 xs r gs p) (clD2 xs r gs p) (by omega) (by omega) (by omega) (by omega) _).onL ?_ | refine (reduce_any (clN2 xs r gs p) (clD2 xs r gs p) (by omega) (by omega) (by omega) (by omega) _).on ?_); intro xq) | ((with_reducible refine wp_region_later (by kernel_rfl) (by kernel_rfl) ?_); (repeat (go_big_quiet_step (fail))); refine wpQuiet_nil ?_; rintro _ ⟨xr, rfl⟩))
    all_goals (go_ret3; exact ⟨by rw [hfin.out]; try rfl, (by repeat (with_reducible first | exact Below.refl _ _ | refine bw_later ?_ _ | refine bw_alloc ?_ _ | refine bw_drew ?_ | refine bw_set ?_ (Nat.le_refl _) _ | refine bw_set ?_ ?_ _ | exact Nat.le_refl _ | exact later_size _ _ | refine Nat.le_trans ?_ (later_size _ _) | refine Nat.le_trans ?_ (size_alloc_le _ _) | refine Nat.le_trans ?_ (Nat.le_add_right _ _)))⟩)
  cases h2 : groundOk xs gs
  · have hfin := Lib.hid (show clearF xs r gs p = (0, 0, false) by simp [clearF, h0, h1, h2])
    unfold R2.v
    go_enter Try.func33, Try.ntmps33
    go_wp2_with (first | (go_at_call 45; (first | refine (l4Asked_any g off n c xs r p _ (by first | exact hs | exact hs.later _ | exact hs.alloc _ | exact (hs.alloc _).later _ | exact (hs.later _).alloc _ | exact ((hs.later _).alloc _).later _ | exact ((hs.alloc _).later _).alloc _ | exact (hs.alloc _).alloc _ | exact ((hs.alloc _).alloc _).later _ | exact (((hs.alloc _).later _).alloc _).later _) hn).onL ?_ | refine (l4Asked_any g off n c xs r p _ (by first | exact hs | exact hs.later _ | exact hs.alloc _ | exact (hs.alloc _).later _ | exact (hs.later _).alloc _ | exact ((hs.later _).alloc _).later _ | exact ((hs.alloc _).later _).alloc _ | exact (hs.alloc _).alloc _ | exact ((hs.alloc _).alloc _).later _ | exact (((hs.alloc _).later _).alloc _).later _) hn).on ?_); intro xq) | (go_at_call 39; (first | refine (s_ground_any g off n c xs g2 off2 m c2 gs _ (by first | exact hs | exact hs.later _ | exact hs.alloc _ | exact (hs.alloc _).later _ | exact (hs.later _).alloc _ | exact ((hs.later _).alloc _).later _ | exact ((hs.alloc _).later _).alloc _ | exact (hs.alloc _).alloc _ | exact ((hs.alloc _).alloc _).later _ | exact (((hs.alloc _).later _).alloc _).later _) hn (by first | exact ht | exact ht.later _ | exact ht.alloc _ | exact (ht.alloc _).later _ | exact (ht.later _).alloc _ | exact ((ht.later _).alloc _).later _ | exact ((ht.alloc _).later _).alloc _ | exact (ht.alloc _).alloc _ | exact ((ht.alloc _).alloc _).later _ | exact (((ht.alloc _).later _).alloc _).later _) hm).onL ?_ | refine (s_ground_any g off n c xs g2 off2 m c2 gs _ (by first | exact hs | exact hs.later _ | exact hs.alloc _ | exact (hs.alloc _).later _ | exact (hs.later _).alloc _ | exact ((hs.later _).alloc _).later _ | exact ((hs.alloc _).later _).alloc _ | exact (hs.alloc _).alloc _ | exact ((hs.alloc _).alloc _).later _ | exact (((hs.alloc _).later _).alloc _).later _) hn (by first | exact ht | exact ht.later _ | exact ht.alloc _ | exact (ht.alloc _).later _ | exact (ht.later _).alloc _ | exact ((ht.later _).alloc _).later _ | exact ((ht.alloc _).later _).alloc _ | exact (ht.alloc _).alloc _ | exact ((ht.alloc _).alloc _).later _ | exact (((ht.alloc _).later _).alloc _).later _) hm).on ?_); intro xq) | (go_at_call 54; (first | refine (l4Clear_any g off n c xs r g2 off2 m c2 gs p _ (by first | exact hs | exact hs.later _ | exact hs.alloc _ | exact (hs.alloc _).later _ | exact (hs.later _).alloc _ | exact ((hs.later _).alloc _).later _ | exact ((hs.alloc _).later _).alloc _ | exact (hs.alloc _).alloc _ | exact ((hs.alloc _).alloc _).later _ | exact (((hs.alloc _).later _).alloc _).later _) hn (by first | exact ht | exact ht.later _ | exact ht.alloc _ | exact (ht.alloc _).later _ | exact (ht.later _).alloc _ | exact ((ht.later _).alloc _).later _ | exact ((ht.alloc _).later _).alloc _ | exact (ht.alloc _).alloc _ | exact ((ht.alloc _).alloc _).later _ | exact (((ht.alloc _).later _).alloc _).later _) hm h0 h1 h2).onL ?_ | refine (l4Clear_any g off n c xs r g2 off2 m c2 gs p _ (by first | exact hs | exact hs.later _ | exact hs.alloc _ | exact (hs.alloc _).later _ | exact (hs.later _).alloc _ | exact ((hs.later _).alloc _).later _ | exact ((hs.alloc _).later _).alloc _ | exact (hs.alloc _).alloc _ | exact ((hs.alloc _).alloc _).later _ | exact (((hs.alloc _).later _).alloc _).later _) hn (by first | exact ht | exact ht.later _ | exact ht.alloc _ | exact (ht.alloc _).later _ | exact (ht.later _).alloc _ | exact ((ht.later _).alloc _).later _ | exact ((ht.alloc _).later _).alloc _ | exact (ht.alloc _).alloc _ | exact ((ht.alloc _).alloc _).later _ | exact (((ht.alloc _).later _).alloc _).later _) hm h0 h1 h2).on ?_); intro xq) | (go_at_call 51; (first | refine (reduce_any (clN2 xs r gs p) (clD2 xs r gs p) (by omega) (by omega) (by omega) (by omega) _).onL ?_ | refine (reduce_any (clN2 xs r gs p) (clD2 xs r gs p) (by omega) (by omega) (by omega) (by omega) _).on ?_); intro xq) | ((with_reducible refine wp_region_later (by kernel_rfl) (by kernel_rfl) ?_); (repeat (go_big_quiet_step (fail))); refine wpQuiet_nil ?_; rintro _ ⟨xr, rfl⟩))
    all_goals (go_ret3; exact ⟨by rw [hfin.out]; try rfl, (by repeat (with_reducible first | exact Below.refl _ _ | refine bw_later ?_ _ | refine bw_alloc ?_ _ | refine bw_drew ?_ | refine bw_set ?_ (Nat.le_refl _) _ | refine bw_set ?_ ?_ _ | exact Nat.le_refl _ | exact later_size _ _ | refine Nat.le_trans ?_ (later_size _ _) | refine Nat.le_trans ?_ (size_alloc_le _ _) | refine Nat.le_trans ?_ (Nat.le_add_right _ _)))⟩)
  have hfin := Lib.hid (show clearF xs r gs p = (redN (clN xs r gs p) (clD xs r gs p), redD (clN xs r gs p) (clD xs r gs p), true) by simp [clearF, h0, h1, h2])
  obtain ⟨⟨q1, q2⟩, ⟨q3, q4⟩, ⟨q5, q6⟩, ⟨q7, q8⟩⟩ := clear_bd h0 h1 h2
  obtain ⟨eN, eD⟩ := cl_eq (xs := xs) (r := r) (gs := gs) (p := p) q1 q5
  rw [← eN, ← eD] at hfin
  clear eN eD
  unfold R2.v
  go_enter Try.func33, Try.ntmps33
  go_wp2_with (first | (go_at_call 45; (first | refine (l4Asked_any g off n c xs r p _ (by first | exact hs | exact hs.later _ | exact hs.alloc _ | exact (hs.alloc _).later _ | exact (hs.later _).alloc _ | exact ((hs.later _).alloc _).later _ | exact ((hs.alloc _).later _).alloc _ | exact (hs.alloc _).alloc _ | exact ((hs.alloc _).alloc _).later _ | exact (((hs.alloc _).later _).alloc _).later _) hn).onL ?_ | refine (l4Asked_any g off n c xs r p _ (by first | exact hs | exact hs.later _ | exact hs.alloc _ | exact (hs.alloc _).later _ | exact (hs.later _).alloc _ | exact ((hs.later _).alloc _).later _ | exact ((hs.alloc _).later _).alloc _ | exact (hs.alloc _).alloc _ | exact ((hs.alloc _).alloc _).later _ | exact (((hs.alloc _).later _).alloc _).later _) hn).on ?_); intro xq) | (go_at_call 39; (first | refine (s_ground_any g off n c xs g2 off2 m c2 gs _ (by first | exact hs | exact hs.later _ | exact hs.alloc _ | exact (hs.alloc _).later _ | exact (hs.later _).alloc _ | exact ((hs.later _).alloc _).later _ | exact ((hs.alloc _).later _).alloc _ | exact (hs.alloc _).alloc _ | exact ((hs.alloc _).alloc _).later _ | exact (((hs.alloc _).later _).alloc _).later _) hn (by first | exact ht | exact ht.later _ | exact ht.alloc _ | exact (ht.alloc _).later _ | exact (ht.later _).alloc _ | exact ((ht.later _).alloc _).later _ | exact ((ht.alloc _).later _).alloc _ | exact (ht.alloc _).alloc _ | exact ((ht.alloc _).alloc _).later _ | exact (((ht.alloc _).later _).alloc _).later _) hm).onL ?_ | refine (s_ground_any g off n c xs g2 off2 m c2 gs _ (by first | exact hs | exact hs.later _ | exact hs.alloc _ | exact (hs.alloc _).later _ | exact (hs.later _).alloc _ | exact ((hs.later _).alloc _).later _ | exact ((hs.alloc _).later _).alloc _ | exact (hs.alloc _).alloc _ | exact ((hs.alloc _).alloc _).later _ | exact (((hs.alloc _).later _).alloc _).later _) hn (by first | exact ht | exact ht.later _ | exact ht.alloc _ | exact (ht.alloc _).later _ | exact (ht.later _).alloc _ | exact ((ht.later _).alloc _).later _ | exact ((ht.alloc _).later _).alloc _ | exact (ht.alloc _).alloc _ | exact ((ht.alloc _).alloc _).later _ | exact (((ht.alloc _).later _).alloc _).later _) hm).on ?_); intro xq) | (go_at_call 54; (first | refine (l4Clear_any g off n c xs r g2 off2 m c2 gs p _ (by first | exact hs | exact hs.later _ | exact hs.alloc _ | exact (hs.alloc _).later _ | exact (hs.later _).alloc _ | exact ((hs.later _).alloc _).later _ | exact ((hs.alloc _).later _).alloc _ | exact (hs.alloc _).alloc _ | exact ((hs.alloc _).alloc _).later _ | exact (((hs.alloc _).later _).alloc _).later _) hn (by first | exact ht | exact ht.later _ | exact ht.alloc _ | exact (ht.alloc _).later _ | exact (ht.later _).alloc _ | exact ((ht.later _).alloc _).later _ | exact ((ht.alloc _).later _).alloc _ | exact (ht.alloc _).alloc _ | exact ((ht.alloc _).alloc _).later _ | exact (((ht.alloc _).later _).alloc _).later _) hm h0 h1 h2).onL ?_ | refine (l4Clear_any g off n c xs r g2 off2 m c2 gs p _ (by first | exact hs | exact hs.later _ | exact hs.alloc _ | exact (hs.alloc _).later _ | exact (hs.later _).alloc _ | exact ((hs.later _).alloc _).later _ | exact ((hs.alloc _).later _).alloc _ | exact (hs.alloc _).alloc _ | exact ((hs.alloc _).alloc _).later _ | exact (((hs.alloc _).later _).alloc _).later _) hn (by first | exact ht | exact ht.later _ | exact ht.alloc _ | exact (ht.alloc _).later _ | exact (ht.later _).alloc _ | exact ((ht.later _).alloc _).later _ | exact ((ht.alloc _).later _).alloc _ | exact (ht.alloc _).alloc _ | exact ((ht.alloc _).alloc _).later _ | exact (((ht.alloc _).later _).alloc _).later _) hm h0 h1 h2).on ?_); intro xq) | (go_at_call 51; (first | refine (reduce_any (clN2 xs r gs p) (clD2 xs r gs p) (by omega) (by omega) (by omega) (by omega) _).onL ?_ | refine (reduce_any (clN2 xs r gs p) (clD2 xs r gs p) (by omega) (by omega) (by omega) (by omega) _).on ?_); intro xq) | ((with_reducible refine wp_region_later (by kernel_rfl) (by kernel_rfl) ?_); (repeat (go_big_quiet_step (fail))); refine wpQuiet_nil ?_; rintro _ ⟨xr, rfl⟩))
  all_goals (go_ret3; exact ⟨by rw [hfin.out]; try rfl, (by repeat (with_reducible first | exact Below.refl _ _ | refine bw_later ?_ _ | refine bw_alloc ?_ _ | refine bw_drew ?_ | refine bw_set ?_ (Nat.le_refl _) _ | refine bw_set ?_ ?_ _ | exact Nat.le_refl _ | exact later_size _ _ | refine Nat.le_trans ?_ (later_size _ _) | refine Nat.le_trans ?_ (size_alloc_le _ _) | refine Nat.le_trans ?_ (Nat.le_add_right _ _)))⟩)
theorem law_ClearanceAt (A0 : Option Addr) (n0 c0 : Nat) (xs0 : List Sup) (r1 : R2) (A2 : Option Addr) (n2 c2 : Nat) (xs2 : List R2) (a3 : Int) (w : World) (rd0 : ASup w A0 n0 xs0 ∧ n0 ≤ 9223372036854775807) (rd2 : AR2 w A2 n2 xs2 ∧ n2 ≤ 9223372036854775807) (_ia3 : I64 a3) : Gv Try.prog 10 #[.slice A0 n0 c0, r1.v, .slice A2 n2 c2, .int .i64 a3] w (.bool true) := by
  obtain ⟨ha0, hm0⟩ := rd0
  replace ha0 := ha0.below2 (w' := (w.alloc (.cells #[.int .i64 r1.a, .int .i64 r1.b] 23))) (bw_alloc (Below.refl _ _) _)
  obtain ⟨ha2, hm2⟩ := rd2
  replace ha2 := ha2.below2 (w' := (w.alloc (.cells #[.int .i64 r1.a, .int .i64 r1.b] 23))) (bw_alloc (Below.refl _ _) _)
  unfold Gv
  unfold R2.v
  by_cases k0 : 1048576 < n0
  · have z0 : szF n0 ((1048576 : Int)) = -1 := by unfold szF; rw [if_pos (by omega)]
    go_enter Try.func10, Try.ntmps10
    go_wp2_with fail
    refine Calls.mono (szSupport_any A0 n0 c0 ((1048576 : Int)) hm0 (by omega) (by omega) _) ?_
    rintro _ w1 ⟨rfl, b1⟩
    have hw := b1
    rw [z0]
    clear z0
    go_wp2_with fail
    go_ret
    exact ⟨rfl, bw_trans (bw_alloc (Below.refl _ _) _) hw⟩
  by_cases k2 : 1048576 < n0 + n2
  · have z0 : szF n0 ((1048576 : Int)) = (1048576 : Int) - (n0 : Int) := by unfold szF; rw [if_neg (by omega)]
    have z2 : szF n2 ((1048576 : Int) - (n0 : Int)) = -1 := by unfold szF; rw [if_pos (by omega)]
    go_enter Try.func10, Try.ntmps10
    go_wp2_with fail
    refine Calls.mono (szSupport_any A0 n0 c0 ((1048576 : Int)) hm0 (by omega) (by omega) _) ?_
    rintro _ w1 ⟨rfl, b1⟩
    have hw := b1
    rw [z0]
    clear z0
    go_wp2_with fail
    refine Calls.mono (szGroundPoint_any A2 n2 c2 ((1048576 : Int) - (n0 : Int)) hm2 (by omega) (by omega) _) ?_
    rintro _ w2 ⟨rfl, b2⟩
    replace hw := bw_trans hw b2
    rw [z2]
    clear z2
    go_wp2_with fail
    go_ret
    exact ⟨rfl, bw_trans (bw_alloc (Below.refl _ _) _) hw⟩
  · have hn0 : n0 ≤ 1048576 := by omega
    have hn2 : n2 ≤ 1048576 := by omega
    have z0 : szF n0 ((1048576 : Int)) = (1048576 : Int) - (n0 : Int) := by unfold szF; rw [if_neg (by omega)]
    have z2 : szF n2 ((1048576 : Int) - (n0 : Int)) = (1048576 : Int) - (n0 : Int) - (n2 : Int) := by unfold szF; rw [if_neg (by omega)]
    go_enter Try.func10, Try.ntmps10
    go_wp2_with fail
    refine Calls.mono (szSupport_any A0 n0 c0 ((1048576 : Int)) hm0 (by omega) (by omega) _) ?_
    rintro _ w1 ⟨rfl, b1⟩
    replace ha0 := ha0.below2 b1
    replace ha2 := ha2.below2 b1
    have hw := b1
    rw [z0]
    clear z0
    go_wp2_with fail
    refine Calls.mono (szGroundPoint_any A2 n2 c2 ((1048576 : Int) - (n0 : Int)) hm2 (by omega) (by omega) _) ?_
    rintro _ w2 ⟨rfl, b2⟩
    replace ha0 := ha0.below2 b2
    replace ha2 := ha2.below2 b2
    replace hw := bw_trans hw b2
    rw [z2]
    clear z2
    go_wp2_with fail
    (refine wp_region_C (Below (w2).heap.size (w2)) (by kernel_rfl) ?_)
    generalize hgd3 : w2.drew = w3
    have b3 : Below w2.heap.size w2 w3 := by rw [← hgd3]; exact (Below.refl _ _).drew
    clear hgd3
    have f1_0 : w2.cell? ⟨w.heap.size, 0, none⟩ = some (.int .i64 r1.a) := (hw.cell (p := ⟨_, _, none⟩) (by simp)).trans (by simp [go_sem])
    have f1_1 : w2.cell? ⟨w.heap.size, 1, none⟩ = some (.int .i64 r1.b) := (hw.cell (p := ⟨_, _, none⟩) (by simp)).trans (by simp [go_sem])
    have g1_ : w.heap.size < w2.heap.size := by have := hw.size; simp at this; omega
    have hreg := b3
    refine step_read (i := 0) (by kernel_rfl) (by kernel_rfl) rfl hreg rfl (fun K hK => ?_)
    apply Exists.intro
    refine ⟨fun x => ?_, ?_⟩
    · go_simp; (try rfl)
    go_simp; refine hK _ ?_; clear hK K
    refine step_read (i := 2) (by kernel_rfl) (by kernel_rfl) rfl hreg rfl (fun K hK => ?_)
    apply Exists.intro
    refine ⟨fun x => ?_, ?_⟩
    · go_simp; (try rfl)
    go_simp; refine hK _ ?_; clear hK K
    refine step_read (i := 4) (by kernel_rfl) (by kernel_rfl) rfl hreg rfl (fun K hK => ?_)
    apply Exists.intro
    refine ⟨fun x => ?_, ?_⟩
    · go_simp; (try rfl)
    go_simp; refine hK _ ?_; clear hK K
    refine step_read (i := 6) (by kernel_rfl) (by kernel_rfl) rfl hreg rfl (fun K hK => ?_)
    apply Exists.intro
    refine ⟨fun x => ?_, ?_⟩
    · go_simp; (try rfl)
    go_simp; refine hK _ ?_; clear hK K
    clear f1_0 f1_1 g1_
    replace ha0 := ha0.below2 b3
    replace ha2 := ha2.below2 b3
    replace hw := bw_trans hw b3
    refine step_one (i := 1) (by kernel_rfl) rfl hreg (fun K hK => ?_)
    go_wp2_with fail
    refine Calls.mono (toSupportS_any A0 n0 c0 xs0 _ ha0 hn0) ?_
    rintro _ w4 ⟨g4, rfl, q4, hB4, b4⟩
    replace ha0 := ha0.below2 b4
    replace ha2 := ha2.below2 b4
    replace hw := bw_trans hw b4
    replace hreg := bw_trans hreg b4
    (try go_wp2)
    (try refine hK _ _ ?_)
    (try clear hK K)
    refine step_one (i := 3) (by kernel_rfl) rfl hreg (fun K hK => ?_)
    go_wp2_with fail
    refine Calls.mono (toRope_any r1 _) ?_
    rintro _ w5 ⟨rfl, b5⟩
    replace ha0 := ha0.below2 b5
    replace ha2 := ha2.below2 b5
    replace hB4 := hB4.below2 b5
    replace hw := bw_trans hw b5
    (try unfold R2.v)
    replace hreg := bw_trans hreg b5
    (try go_wp2)
    (try refine hK _ _ ?_)
    (try clear hK K)
    refine step_one (i := 5) (by kernel_rfl) rfl hreg (fun K hK => ?_)
    go_wp2_with fail
    refine Calls.mono (toGroundPointS_any A2 n2 c2 xs2 _ ha2 hn2) ?_
    rintro _ w6 ⟨g6, rfl, q6, hB6, b6⟩
    replace ha0 := ha0.below2 b6
    replace ha2 := ha2.below2 b6
    replace hB4 := hB4.below2 b6
    replace hw := bw_trans hw b6
    replace hreg := bw_trans hreg b6
    (try go_wp2)
    (try refine hK _ _ ?_)
    (try clear hK K)
    refine step_one (i := 7) (by kernel_rfl) rfl hreg (fun K hK => ?_)
    go_wp2_with fail
    refine Calls.mono (s_ClearanceAt_any g4 0 n0 n0 xs0 r1 g6 0 n2 n2 xs2 a3 _ hB4.reads hn0 hB6.reads hn2) ?_
    rintro _ w7 ⟨rfl, b7⟩
    replace ha0 := ha0.below2 b7
    replace ha2 := ha2.below2 b7
    replace hB4 := hB4.below2 b7
    replace hB6 := hB6.below2 b7
    replace hw := bw_trans hw b7
    replace hreg := bw_trans hreg b7
    (try go_wp2)
    (try refine hK _ _ ?_)
    (try clear hK K)
    refine step_read (i := 8) (by kernel_rfl) (by kernel_rfl) rfl hreg rfl (fun K hK => ?_)
    apply Exists.intro
    refine ⟨fun x => ?_, ?_⟩
    · go_simp; (try rfl)
    go_simp; refine hK _ ?_; clear hK K
    refine step_read (i := 9) (by kernel_rfl) (by kernel_rfl) rfl hreg rfl (fun K hK => ?_)
    apply Exists.intro
    refine ⟨fun x => ?_, ?_⟩
    · go_simp; (try rfl)
    go_simp; refine hK _ ?_; clear hK K
    refine step_read (i := 10) (by kernel_rfl) (by kernel_rfl) rfl hreg rfl (fun K hK => ?_)
    apply Exists.intro
    refine ⟨fun x => ?_, ?_⟩
    · go_simp; (try rfl)
    go_simp; refine hK _ ?_; clear hK K
    refine step_read (i := 11) (by kernel_rfl) (by kernel_rfl) rfl hreg rfl (fun K hK => ?_)
    apply Exists.intro
    refine ⟨fun x => ?_, ?_⟩
    · go_simp; (try rfl)
    go_simp; refine hK _ ?_; clear hK K
    refine step_read (i := 12) (by kernel_rfl) (by kernel_rfl) rfl hreg rfl (fun K hK => ?_)
    apply Exists.intro
    refine ⟨fun x => ?_, ?_⟩
    · go_simp; (try rfl)
    go_simp; refine hK _ ?_; clear hK K
    refine step_read (i := 13) (by kernel_rfl) (by kernel_rfl) rfl hreg rfl (fun K hK => ?_)
    apply Exists.intro
    refine ⟨fun x => ?_, ?_⟩
    · go_simp; (try rfl)
    go_simp; refine hK _ ?_; clear hK K
    refine step_read (i := 14) (by kernel_rfl) (by kernel_rfl) rfl hreg rfl (fun K hK => ?_)
    apply Exists.intro
    refine ⟨fun x => ?_, ?_⟩
    · go_simp; (try rfl)
    go_simp; refine hK _ ?_; clear hK K
    refine step_end (by kernel_rfl) hreg ?_
    clear hreg
    go_wp2_with fail
    refine Calls.mono (toSupportS_any A0 n0 c0 xs0 _ ha0 hn0) ?_
    rintro _ w8 ⟨g8, rfl, q8, hB8, b8⟩
    replace ha0 := ha0.below2 b8
    replace ha2 := ha2.below2 b8
    replace hB4 := hB4.below2 b8
    replace hB6 := hB6.below2 b8
    replace hw := bw_trans hw b8
    go_wp2_with fail
    refine Calls.mono (toGroundPointS_any A2 n2 c2 xs2 _ ha2 hn2) ?_
    rintro _ w9 ⟨g9, rfl, q9, hB9, b9⟩
    replace ha0 := ha0.below2 b9
    replace ha2 := ha2.below2 b9
    replace hB4 := hB4.below2 b9
    replace hB6 := hB6.below2 b9
    replace hB8 := hB8.below2 b9
    replace hw := bw_trans hw b9
    have e0 : w9.cell? ⟨w.heap.size, 0, none⟩ = some (.int .i64 r1.a) := (hw.cell (p := ⟨_, _, none⟩) (by simp)).trans (by simp [go_sem])
    have e1 : w9.cell? ⟨w.heap.size, 1, none⟩ = some (.int .i64 r1.b) := (hw.cell (p := ⟨_, _, none⟩) (by simp)).trans (by simp [go_sem])
    go_wp2_with fail
    refine Calls.mono (toRope_any r1 _) ?_
    rintro _ w10 ⟨rfl, b10⟩
    replace ha0 := ha0.below2 b10
    replace ha2 := ha2.below2 b10
    replace hB4 := hB4.below2 b10
    replace hB6 := hB6.below2 b10
    replace hB8 := hB8.below2 b10
    replace hB9 := hB9.below2 b10
    replace hw := bw_trans hw b10
    unfold R2.v
    clear e0 e1
    go_wp2_with fail
    refine Calls.mono (i_ClearanceAt_any g8 0 n0 n0 xs0 r1 g9 0 n2 n2 xs2 a3 _ hB8.reads hn0 hB9.reads hn2) ?_
    rintro _ w11 ⟨rfl, b11⟩
    replace ha0 := ha0.below2 b11
    replace ha2 := ha2.below2 b11
    replace hB4 := hB4.below2 b11
    replace hB6 := hB6.below2 b11
    replace hB8 := hB8.below2 b11
    replace hB9 := hB9.below2 b11
    replace hw := bw_trans hw b11
    go_wp2_with fail
    refine Calls.mono (toSupportS_any A0 n0 c0 xs0 _ ha0 hn0) ?_
    rintro _ w12 ⟨g12, rfl, q12, hB12, b12⟩
    replace ha0 := ha0.below2 b12
    replace ha2 := ha2.below2 b12
    replace hB4 := hB4.below2 b12
    replace hB6 := hB6.below2 b12
    replace hB8 := hB8.below2 b12
    replace hB9 := hB9.below2 b12
    replace hw := bw_trans hw b12
    go_wp2_with fail
    refine Calls.mono (eqSupportS_any _ _ n0 n0 n0 n0 xs0 xs0 _ (ASup.of hB8.reads) (ASup.of hB12.reads) hn0 hn0) ?_
    rintro _ w13 ⟨rfl, b13⟩
    replace ha0 := ha0.below2 b13
    replace ha2 := ha2.below2 b13
    replace hB4 := hB4.below2 b13
    replace hB6 := hB6.below2 b13
    replace hB8 := hB8.below2 b13
    replace hB9 := hB9.below2 b13
    replace hB12 := hB12.below2 b13
    replace hw := bw_trans hw b13
    go_wp2_with fail
    refine Calls.mono (toGroundPointS_any A2 n2 c2 xs2 _ ha2 hn2) ?_
    rintro _ w14 ⟨g14, rfl, q14, hB14, b14⟩
    replace ha0 := ha0.below2 b14
    replace ha2 := ha2.below2 b14
    replace hB4 := hB4.below2 b14
    replace hB6 := hB6.below2 b14
    replace hB8 := hB8.below2 b14
    replace hB9 := hB9.below2 b14
    replace hB12 := hB12.below2 b14
    replace hw := bw_trans hw b14
    go_wp2_with fail
    refine Calls.mono (eqGroundPointS_any _ _ n2 n2 n2 n2 xs2 xs2 _ (AR2.of hB9.reads) (AR2.of hB14.reads) hn2 hn2) ?_
    rintro _ w15 ⟨rfl, b15⟩
    replace ha0 := ha0.below2 b15
    replace ha2 := ha2.below2 b15
    replace hB4 := hB4.below2 b15
    replace hB6 := hB6.below2 b15
    replace hB8 := hB8.below2 b15
    replace hB9 := hB9.below2 b15
    replace hB12 := hB12.below2 b15
    replace hB14 := hB14.below2 b15
    replace hw := bw_trans hw b15
    go_wp2_with fail
    go_ret
    exact ⟨rfl, bw_trans (bw_alloc (Below.refl _ _) _) hw⟩
end Go.Proofs.Ytkdekpnnnpembaa
