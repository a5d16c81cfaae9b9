/- The place with the smallest clearance: plain side; the program. -/
import Derived.Test.YtkdekpnnnpembaaClearS
import Derived.Test.YtkdekpnnnpembaaCmp
import Derived.Test.YtkdekpnnnpembaaBoxed
namespace Go.Proofs.Ytkdekpnnnpembaa
open Go Go.RowKit
theorem results_tmp4 {fn : Func} {t u v z : Tmp} (h : fn.results = #[.tmp t, .tmp u, .tmp v, .tmp z]) (tmps : Array Value) (P : Program) (w : World) :
    (results fn tmps).run P w = .ok (.tuple #[tmps.getD t undef, tmps.getD u undef, tmps.getD v undef, tmps.getD z undef]) w := by
  simp [results, h]
theorem Cw.set {w w' : World} {b : Nat} {cs : Array Value} {t : TypeId} (h : Cw w b cs t w') {g i : Nat} (h1 : w.heap.size ≤ g) (h2 : b ≠ g) (u : Value) : Cw w b cs t (w'.setCell ⟨g, i, none⟩ u) :=
  ⟨bw_set h.below h1 u, (Below.heap_setCell w' ⟨g, i, none⟩ u b h2).trans h.blk⟩
theorem cmpZ_any (n1 n2 d1 d2 : Int) (a1 : -4611686018427387904 ≤ n1) (a2 : n1 ≤ 4611686018427387904) (a3 : -4611686018427387904 ≤ n2) (a4 : n2 ≤ 4611686018427387904) (b1 : 1 ≤ d1) (b2 : d1 ≤ 4611686018427387904) (b3 : 1 ≤ d2) (b4 : d2 ≤ 4611686018427387904) (w : World) :
    Gv Try.prog 57 #[.agg #[.int .i64 n1, .int .i64 d1], .agg #[.int .i64 n2, .int .i64 d2]] w (.int .i64 (cmpI (n1 * d2) (n2 * d1))) := by
  obtain ⟨e1, rfl⟩ := Int.eq_ofNat_of_zero_le (show 0 ≤ d1 by omega)
  obtain ⟨e2, rfl⟩ := Int.eq_ofNat_of_zero_le (show 0 ≤ d2 by omega)
  exact cmp_any n1 n2 e1 e2 a1 a2 a3 a4 (by omega) (by omega) (by omega) (by omega) w
theorem cmp_lt (p q : Int) : decide (cmpI p q < 0) = decide (p < q) := by
  unfold cmpI
  (repeat' split) <;> simp <;> omega
/-- The clearance at a place, in lowest terms. -/
def rn (xs : List Sup) (r : R2) (gs : List R2) (k : Nat) : Int := redN (clN xs r gs k) (clD xs r gs k)
def rd (xs : List Sup) (r : R2) (gs : List R2) (k : Nat) : Int := redD (clN xs r gs k) (clD xs r gs k)
/-- The first of the places with the smallest clearance, among the first k. -/
def lowB (xs : List Sup) (r : R2) (gs : List R2) : Nat → Nat
  | 0 => 0
  | k + 1 => if rn xs r gs k * rd xs r gs (lowB xs r gs k) < rn xs r gs (lowB xs r gs k) * rd xs r gs k then k else lowB xs r gs k
section
variable {xs : List Sup} {r : R2} {gs : List R2} {k : Nat}
theorem low_yes (h : rn xs r gs k * rd xs r gs (lowB xs r gs k) < rn xs r gs (lowB xs r gs k) * rd xs r gs k) : lowB xs r gs (k + 1) = k := by simp [lowB, h]
theorem low_no (h : ¬ rn xs r gs k * rd xs r gs (lowB xs r gs k) < rn xs r gs (lowB xs r gs k) * rd xs r gs k) : lowB xs r gs (k + 1) = lowB xs r gs k := by simp only [lowB, if_neg h]
theorem low_one : lowB xs r gs 1 = 0 := by simp [lowB]
theorem low_le (k : Nat) : lowB xs r gs k ≤ k := by
  induction k with
  | zero => exact Nat.le_refl _
  | succ k ih =>
    simp only [lowB]
    split <;> omega
theorem low_lt (k : Nat) : lowB xs r gs (k + 1) < k + 1 := by
  simp only [lowB]
  have := low_le (xs := xs) (r := r) (gs := gs) k
  split <;> omega
end
theorem on_place {xs : List Sup} {k : Nat} (h0 : okLine xs = true) (hk : (k : Int) ≤ lastAt xs) : onLine xs (k : Int) = true := by
  simp only [onLine, h0, Bool.true_and, inB, Bool.and_eq_true, decide_eq_true_eq]
  exact ⟨by omega, hk⟩
theorem r_bd {xs : List Sup} {r : R2} {gs : List R2} {k : Nat} (h0 : okLine xs = true) (hr : isRope r = true) (hG : groundOk xs gs = true) (hk : (k : Int) ≤ lastAt xs) :
    (-40000000000000000 ≤ rn xs r gs k ∧ rn xs r gs k ≤ 40000000000000000) ∧ (1 ≤ rd xs r gs k ∧ rd xs r gs k ≤ 1800000000000) := by
  obtain ⟨⟨q1, q2⟩, ⟨q3, q4⟩, -, -⟩ := clear_bd (on_place h0 hk) hr hG
  have h1 := redN_bd q1 q3 q4
  have h2 := redD_pos (n := clN xs r gs k) q1
  exact ⟨h1, h2.1, by have := h2.2; show redD _ _ ≤ _; omega⟩
def lowG (xs : List Sup) (r : R2) (gs : List R2) (b : Nat) : Int × Int × Int × Bool := ((b : Int), rn xs r gs b, rd xs r gs b, true)
def lowF (xs : List Sup) (r : R2) (gs : List R2) : Int × Int × Int × Bool := if isRope r && groundOk xs gs then lowG xs r gs (lowB xs r gs ((lastAt xs).toNat + 1)) else (0, 0, 0, false)
set_option maxHeartbeats 4000000 in
theorem i_Lowest_any (g off n c : Nat) (xs : List Sup) (r : R2) (g2 off2 m c2 : Nat) (gs : List R2) (w : World) (hs : SSup w g off n xs) (hn : n ≤ 1048576) (ht : SR2 w g2 off2 m gs) (hm : m ≤ 1048576) : Gv Try.prog 36 #[.slice (some ⟨g, off, none⟩) n c, r.v, .slice (some ⟨g2, off2, none⟩) m c2] w (.tuple #[.int .i64 ((lowF xs r gs)).1, .int .i64 (((lowF xs r gs)).2).1, .int .i64 ((((lowF xs r gs)).2).2).1, .bool ((((lowF xs r gs)).2).2).2]) := by
  unfold Gv
  cases h0 : isRope r
  · have hfin := Lib.hid (show lowF xs r gs = (0, 0, 0, false) by simp [lowF, h0])
    unfold R2.v
    go_enter Try.func36, Try.ntmps36
    go_wp2_with (first | (go_at_call 14; (first | refine (impl_IsRope_any r _).onL ?_ | refine (impl_IsRope_any r _).on ?_); intro xq) | (go_at_call 20; (first | refine (i_ground_any g off _ c xs g2 off2 m c2 gs _ (by first | exact hs | exact hs.later _ | exact hs.alloc _ | exact (hs.alloc _).later _ | exact (hs.later _).alloc _ | exact ((hs.later _).alloc _).later _ | exact ((hs.alloc _).later _).alloc _ | exact (hs.alloc _).alloc _ | exact ((hs.alloc _).alloc _).later _ | exact (((hs.alloc _).later _).alloc _).later _) hn (by first | exact ht | exact ht.later _ | exact ht.alloc _ | exact (ht.alloc _).later _ | exact (ht.later _).alloc _ | exact ((ht.later _).alloc _).later _ | exact ((ht.alloc _).later _).alloc _ | exact (ht.alloc _).alloc _ | exact ((ht.alloc _).alloc _).later _ | exact (((ht.alloc _).later _).alloc _).later _) hm).onL ?_ | refine (i_ground_any g off _ c xs g2 off2 m c2 gs _ (by first | exact hs | exact hs.later _ | exact hs.alloc _ | exact (hs.alloc _).later _ | exact (hs.later _).alloc _ | exact ((hs.later _).alloc _).later _ | exact ((hs.alloc _).later _).alloc _ | exact (hs.alloc _).alloc _ | exact ((hs.alloc _).alloc _).later _ | exact (((hs.alloc _).later _).alloc _).later _) hn (by first | exact ht | exact ht.later _ | exact ht.alloc _ | exact (ht.alloc _).later _ | exact (ht.later _).alloc _ | exact ((ht.later _).alloc _).later _ | exact ((ht.alloc _).later _).alloc _ | exact (ht.alloc _).alloc _ | exact ((ht.alloc _).alloc _).later _ | exact (((ht.alloc _).later _).alloc _).later _) hm).on ?_); intro xq))
    all_goals (((try simp only [Exit.inBlock, Exit.then]); refine bodyPost_ret (results_tmp4 rfl _ _ _) rfl ?_); exact ⟨by rw [hfin.out]; try rfl, (by repeat (with_reducible first | exact Below.refl _ _ | refine bw_later ?_ _ | refine bw_alloc ?_ _ | refine bw_drew ?_ | refine bw_set ?_ (Nat.le_refl _) _ | refine bw_set ?_ ?_ _ | exact Nat.le_refl _ | exact later_size _ _ | refine Nat.le_trans ?_ (later_size _ _) | refine Nat.le_trans ?_ (size_alloc_le _ _) | refine Nat.le_trans ?_ (Nat.le_add_right _ _)))⟩)
  cases h1 : groundOk xs gs
  · have hfin := Lib.hid (show lowF xs r gs = (0, 0, 0, false) by simp [lowF, h0, h1])
    unfold R2.v
    go_enter Try.func36, Try.ntmps36
    go_wp2_with (first | (go_at_call 14; (first | refine (impl_IsRope_any r _).onL ?_ | refine (impl_IsRope_any r _).on ?_); intro xq) | (go_at_call 20; (first | refine (i_ground_any g off _ c xs g2 off2 m c2 gs _ (by first | exact hs | exact hs.later _ | exact hs.alloc _ | exact (hs.alloc _).later _ | exact (hs.later _).alloc _ | exact ((hs.later _).alloc _).later _ | exact ((hs.alloc _).later _).alloc _ | exact (hs.alloc _).alloc _ | exact ((hs.alloc _).alloc _).later _ | exact (((hs.alloc _).later _).alloc _).later _) hn (by first | exact ht | exact ht.later _ | exact ht.alloc _ | exact (ht.alloc _).later _ | exact (ht.later _).alloc _ | exact ((ht.later _).alloc _).later _ | exact ((ht.alloc _).later _).alloc _ | exact (ht.alloc _).alloc _ | exact ((ht.alloc _).alloc _).later _ | exact (((ht.alloc _).later _).alloc _).later _) hm).onL ?_ | refine (i_ground_any g off _ c xs g2 off2 m c2 gs _ (by first | exact hs | exact hs.later _ | exact hs.alloc _ | exact (hs.alloc _).later _ | exact (hs.later _).alloc _ | exact ((hs.later _).alloc _).later _ | exact ((hs.alloc _).later _).alloc _ | exact (hs.alloc _).alloc _ | exact ((hs.alloc _).alloc _).later _ | exact (((hs.alloc _).later _).alloc _).later _) hn (by first | exact ht | exact ht.later _ | exact ht.alloc _ | exact (ht.alloc _).later _ | exact (ht.later _).alloc _ | exact ((ht.later _).alloc _).later _ | exact ((ht.alloc _).later _).alloc _ | exact (ht.alloc _).alloc _ | exact ((ht.alloc _).alloc _).later _ | exact (((ht.alloc _).later _).alloc _).later _) hm).on ?_); intro xq))
    all_goals (((try simp only [Exit.inBlock, Exit.then]); refine bodyPost_ret (results_tmp4 rfl _ _ _) rfl ?_); exact ⟨by rw [hfin.out]; try rfl, (by repeat (with_reducible first | exact Below.refl _ _ | refine bw_later ?_ _ | refine bw_alloc ?_ _ | refine bw_drew ?_ | refine bw_set ?_ (Nat.le_refl _) _ | refine bw_set ?_ ?_ _ | exact Nat.le_refl _ | exact later_size _ _ | refine Nat.le_trans ?_ (later_size _ _) | refine Nat.le_trans ?_ (size_alloc_le _ _) | refine Nat.le_trans ?_ (Nat.le_add_right _ _)))⟩)
  have hfin := Lib.hid (show lowF xs r gs = lowG xs r gs (lowB xs r gs ((lastAt xs).toNat + 1)) by simp [lowF, h0, h1])
  obtain ⟨h0', -, -, -, -⟩ := ground_t h1
  have hL := line_ok h0'
  have h28 := hL.len
  have hle := hs.2.1
  obtain ⟨z, hz0, ez0, l0, l1⟩ := lastAt_is hL
  obtain ⟨nn, rfl⟩ : ∃ nn, n = nn + 1 := ⟨n - 1, by omega⟩
  rw [hle, Nat.add_sub_cancel] at hz0
  rw [ez0] at l0 l1
  have hz := Lib.hid hz0
  have ez := Lib.hid ez0
  have hr := Lib.hid h0
  have hG := Lib.hid h1
  have hg := hs.1
  have hg2 := ht.1
  have iw : IntKind.i64.wrap ((nn : Int) + 1 - 1) = (nn : Int) := by rw [Go.IntWalk.i64_in _ (by omega)]; omega
  have i2 : (nn : Int) < (nn : Int) + 1 := by omega
  have i3 : nn < nn + 1 := by omega
  have hc0 : Hid (∀ w, SSup w g off (nn + 1) xs → SR2 w g2 off2 m gs → Gv Try.prog 55 #[.slice (some ⟨g, off, none⟩) (nn + 1) c, .agg #[.int .i64 r.a, .int .i64 r.b], .slice (some ⟨g2, off2, none⟩) m c2, .int .i64 0] w (.agg #[.int .i64 (rn xs r gs 0), .int .i64 (rd xs r gs 0)])) := Lib.hid fun w h h' => clearanceAt_any g off (nn + 1) c xs r g2 off2 m c2 gs 0 w h hn h' hm (on_place (k := 0) h0' (by rw [ez0]; exact l0)) h0 h1
  clear hz0 ez0 hL h28 hle
  have h0z := Lib.hid h0'
  clear h0'

  unfold R2.v
  go_enter Try.func36, Try.ntmps36
  go_wp2_with (first | (go_at_call 14; (first | refine (impl_IsRope_any r _).onL ?_ | refine (impl_IsRope_any r _).on ?_); intro xq) | (go_at_call 20; (first | refine (i_ground_any g off _ c xs g2 off2 m c2 gs _ (by first | exact hs | exact hs.later _ | exact hs.alloc _ | exact (hs.alloc _).later _ | exact (hs.later _).alloc _ | exact ((hs.later _).alloc _).later _ | exact ((hs.alloc _).later _).alloc _ | exact (hs.alloc _).alloc _ | exact ((hs.alloc _).alloc _).later _ | exact (((hs.alloc _).later _).alloc _).later _) hn (by first | exact ht | exact ht.later _ | exact ht.alloc _ | exact (ht.alloc _).later _ | exact (ht.later _).alloc _ | exact ((ht.later _).alloc _).later _ | exact ((ht.alloc _).later _).alloc _ | exact (ht.alloc _).alloc _ | exact ((ht.alloc _).alloc _).later _ | exact (((ht.alloc _).later _).alloc _).later _) hm).onL ?_ | refine (i_ground_any g off _ c xs g2 off2 m c2 gs _ (by first | exact hs | exact hs.later _ | exact hs.alloc _ | exact (hs.alloc _).later _ | exact (hs.later _).alloc _ | exact ((hs.later _).alloc _).later _ | exact ((hs.alloc _).later _).alloc _ | exact (hs.alloc _).alloc _ | exact ((hs.alloc _).alloc _).later _ | exact (((hs.alloc _).later _).alloc _).later _) hn (by first | exact ht | exact ht.later _ | exact ht.alloc _ | exact (ht.alloc _).later _ | exact (ht.later _).alloc _ | exact ((ht.later _).alloc _).later _ | exact ((ht.alloc _).later _).alloc _ | exact (ht.alloc _).alloc _ | exact ((ht.alloc _).alloc _).later _ | exact (((ht.alloc _).later _).alloc _).later _) hm).on ?_); intro xq) | (go_at_call 55; refine Calls.mono (hc0.out _ (by first | exact hs | exact hs.later _ | exact hs.alloc _ | exact (hs.alloc _).later _ | exact (hs.later _).alloc _ | exact ((hs.later _).alloc _).later _ | exact ((hs.alloc _).later _).alloc _ | exact (hs.alloc _).alloc _ | exact ((hs.alloc _).alloc _).later _ | exact (((hs.alloc _).later _).alloc _).later _) (by first | exact ht | exact ht.later _ | exact ht.alloc _ | exact (ht.alloc _).later _ | exact (ht.later _).alloc _ | exact ((ht.later _).alloc _).later _ | exact ((ht.alloc _).later _).alloc _ | exact (ht.alloc _).alloc _ | exact ((ht.alloc _).alloc _).later _ | exact (((ht.alloc _).later _).alloc _).later _)) ?_; rintro _ w1 ⟨rfl, hb1⟩; have hbw1 : Below (w.alloc (.cells #[.int .i64 r.a, .int .i64 r.b] 25)).heap.size (w.alloc (.cells #[.int .i64 r.a, .int .i64 r.b] 25)) w1 := bw_trans (a := (w.alloc (.cells #[.int .i64 r.a, .int .i64 r.b] 25))) (by repeat (with_reducible first | exact Below.refl _ _ | refine bw_later ?_ _ | refine bw_alloc ?_ _ | refine bw_drew ?_ | refine bw_set ?_ (Nat.le_refl _) _ | refine bw_set ?_ ?_ _ | exact Nat.le_refl _ | exact later_size _ _ | refine Nat.le_trans ?_ (later_size _ _) | refine Nat.le_trans ?_ (size_alloc_le _ _) | refine Nat.le_trans ?_ (Nat.le_add_right _ _))) hb1))
  have hgM : w.heap.size ≤ w1.heap.size := Nat.le_trans (by simp) hbw1.size
  have hgB : (w.alloc (.cells #[.int .i64 r.a, .int .i64 r.b] 25)).heap.size ≤ w1.heap.size := hbw1.size
  have hM1 : (w1.alloc (.cells #[.int .i64 (rn xs r gs 0), .int .i64 (rd xs r gs 0)] 74)).heap[w1.heap.size]? = some (.cells #[.int .i64 (rn xs r gs 0), .int .i64 (rd xs r gs 0)] 74 (0, 0)) := heap_alloc_new _ _
  generalize hgm : w1.heap.size = gM at hgM hgB hM1 ⊢
  clear hb1
  go_loopw [10, 12] (fun b i wr => ∃ (k : Nat) (B N D : Int), Below (w.alloc (.cells #[.int .i64 r.a, .int .i64 r.b] 25)).heap.size (w.alloc (.cells #[.int .i64 r.a, .int .i64 r.b] 25)) wr ∧ 1 ≤ k ∧ (k : Int) ≤ z.at_ + 1 ∧ i = .int .i64 (k : Int) ∧ b = .int .i64 B ∧ wr.heap[gM]? = some (.cells #[.int .i64 N, .int .i64 D] 74 (0, 0)) ∧ Hid (B = (lowB xs r gs k : Int) ∧ N = rn xs r gs (lowB xs r gs k) ∧ D = rd xs r gs (lowB xs r gs k))) (fun _ i _ => (z.at_ + 1 - intOf i).toNat)
  case atStart => exact ⟨1, 0, rn xs r gs 0, rd xs r gs 0, bw_alloc hbw1 _, by omega, by omega, rfl, rfl, hM1, Lib.hid (by rw [low_one]; exact ⟨rfl, rfl, rfl⟩)⟩
  case round =>
    obtain ⟨k, B, N, D, hbw, hk1, hk, rfl, rfl, hM, hst⟩ := hrel
    have hsr : SSup wr g off (nn + 1) xs := (hs.alloc _).below (by simp; omega) hbw
    have htr : SR2 wr g2 off2 m gs := (ht.alloc _).below (by simp; omega) hbw
    have hR : w.heap.size < (w.alloc (.cells #[.int .i64 r.a, .int .i64 r.b] 25)).heap.size := by simp
    have hra : wr.cell? ⟨w.heap.size, 0, none⟩ = some (.int .i64 r.a) := by rw [hbw.cell (p := ⟨w.heap.size, 0, none⟩) hR]; go_simp
    have hrb : wr.cell? ⟨w.heap.size, 1, none⟩ = some (.int .i64 r.b) := by rw [hbw.cell (p := ⟨w.heap.size, 1, none⟩) hR]; go_simp
    have hRl : w.heap.size < wr.heap.size := Nat.lt_of_lt_of_le hR hbw.size
    have hgMl : gM < wr.heap.size := (Array.getElem?_eq_some_iff.1 hM).1
    obtain ⟨z0, -, -⟩ := hsr.2.2 nn z hz.out
    have hgr := hsr.1
    have hm0 : wr.cell? ⟨gM, 0, none⟩ = some (.int .i64 N) := by rw [cell_of_row wr gM 0 _ _ (0, 0) hM]; rfl
    have hm1 : wr.cell? ⟨gM, 1, none⟩ = some (.int .i64 D) := by rw [cell_of_row wr gM 1 _ _ (0, 0) hM]; rfl
    have HM := Lib.hid hM
    clear hM hR
    obtain ⟨eB, eN, eD⟩ := hst.out
    by_cases hlt : (k : Int) ≤ z.at_
    · have hkl : (k : Int) ≤ lastAt xs := by rw [ez.out]; exact hlt
      have hbl : ((lowB xs r gs k : Nat) : Int) ≤ lastAt xs := by have := low_le (xs := xs) (r := r) (gs := gs) k; omega
      obtain ⟨⟨n1, n2⟩, ⟨d1, d2⟩⟩ := r_bd h0z.out hr.out hG.out hkl
      obtain ⟨⟨n3, n4⟩, ⟨d3, d4⟩⟩ := r_bd h0z.out hr.out hG.out hbl
      rw [← eN] at n3 n4
      rw [← eD] at d3 d4
      have hY := Lib.hid (low_yes (xs := xs) (r := r) (gs := gs) (k := k))
      have hNo := Lib.hid (low_no (xs := xs) (r := r) (gs := gs) (k := k))
      rw [← eN, ← eD] at hY hNo
      have EB := Lib.hid eB
      have EN := Lib.hid eN
      have ED := Lib.hid eD
      clear eB eN eD hst
      have hcK : Hid (∀ w, SSup w g off (nn + 1) xs → SR2 w g2 off2 m gs → Gv Try.prog 55 #[.slice (some ⟨g, off, none⟩) (nn + 1) c, .agg #[.int .i64 r.a, .int .i64 r.b], .slice (some ⟨g2, off2, none⟩) m c2, .int .i64 (k : Int)] w (.agg #[.int .i64 (rn xs r gs k), .int .i64 (rd xs r gs k)])) := Lib.hid fun w h h' => clearanceAt_any g off (nn + 1) c xs r g2 off2 m c2 gs (k : Int) w h hn h' hm (on_place h0z.out hkl) hr.out hG.out
      have hrk : Hid (rn xs r gs k = rn xs r gs k ∧ rd xs r gs k = rd xs r gs k) := Lib.hid ⟨rfl, rfl⟩
      generalize erk : rn xs r gs k = rk at n1 n2 hcK hY hNo
      generalize edk : rd xs r gs k = dk at d1 d2 hcK hY hNo
      have ERK := Lib.hid erk
      have EDK := Lib.hid edk
      clear erk edk hrk
      have hgt := cmp_lt (rk * D) (N * dk)
      cases hp : decide (rk * D < N * dk)
      · rw [hp] at hgt
        have HP := Lib.hid (Int.not_lt.1 (of_decide_eq_false hp))
        clear hp
        go_wp2_with (first | (go_at_call 55; refine Calls.mono (hcK.out _ hsr htr) ?_; rintro _ w2 ⟨rfl, hb2⟩; have hbw2 := bw_trans hbw hb2; have hM2 := (hb2.block gM hgMl).trans HM.out; have hg2l : gM < w2.heap.size := (Array.getElem?_eq_some_iff.1 hM2).1; have hm20 : w2.cell? ⟨gM, 0, none⟩ = some (.int .i64 N) := (by rw [cell_of_row w2 gM 0 _ _ (0, 0) hM2]; rfl); have hm21 : w2.cell? ⟨gM, 1, none⟩ = some (.int .i64 D) := (by rw [cell_of_row w2 gM 1 _ _ (0, 0) hM2]; rfl); have HM2 := Lib.hid hM2; clear hM2 hb2) | (go_at_call 57; refine (cmpZ_any rk N dk D (by omega) (by omega) (by omega) (by omega) (by omega) (by omega) (by omega) (by omega) _).on ?_; intro xq))
        go_roundw
        case rel => exact ⟨k + 1, B, N, D, (by repeat (with_reducible first | exact hbw2 | exact hcw.below | exact Below.refl _ _ | refine bw_later ?_ _ | refine bw_alloc ?_ _ | refine bw_drew ?_ | refine bw_set ?_ hgM _)), by omega, by omega, by go_num, rfl, ((later_below _ xq).block gM (by simp; omega)).trans ((Below.heap_alloc w2 _ gM hg2l).trans HM2.out), Lib.hid (by rw [hNo.out (by first | exact HP.out | exact Int.not_lt.2 HP.out)]; exact ⟨EB.out, EN.out, ED.out⟩)⟩
        case measure => simp [intOf]; omega
      · rw [hp] at hgt
        have HP := Lib.hid (of_decide_eq_true hp)
        clear hp
        go_wp2_with (first | (go_at_call 55; refine Calls.mono (hcK.out _ hsr htr) ?_; rintro _ w2 ⟨rfl, hb2⟩; have hbw2 := bw_trans hbw hb2; have hM2 := (hb2.block gM hgMl).trans HM.out; have hg2l : gM < w2.heap.size := (Array.getElem?_eq_some_iff.1 hM2).1; have hm20 : w2.cell? ⟨gM, 0, none⟩ = some (.int .i64 N) := (by rw [cell_of_row w2 gM 0 _ _ (0, 0) hM2]; rfl); have hm21 : w2.cell? ⟨gM, 1, none⟩ = some (.int .i64 D) := (by rw [cell_of_row w2 gM 1 _ _ (0, 0) hM2]; rfl); have HM2 := Lib.hid hM2; clear hM2 hb2) | (go_at_call 57; refine (cmpZ_any rk N dk D (by omega) (by omega) (by omega) (by omega) (by omega) (by omega) (by omega) (by omega) _).on ?_; intro xq))
        have hcw : Cw w w2.heap.size #[.int .i64 rk, .int .i64 dk] 74 (later (w2.alloc (.cells #[.int .i64 rk, .int .i64 dk] 74)) xq) := (Cw.new (bw_trans (a := w) (by repeat (with_reducible first | exact Below.refl _ _ | refine bw_later ?_ _ | refine bw_alloc ?_ _ | refine bw_drew ?_ | refine bw_set ?_ (Nat.le_refl _) _ | refine bw_set ?_ ?_ _ | exact Nat.le_refl _ | exact later_size _ _ | refine Nat.le_trans ?_ (later_size _ _) | refine Nat.le_trans ?_ (size_alloc_le _ _) | refine Nat.le_trans ?_ (Nat.le_add_right _ _))) hbw2) _ _).later xq
        have hne : w2.heap.size ≠ gM := by omega
        have hbw3 : Below (w.alloc (.cells #[.int .i64 r.a, .int .i64 r.b] 25)).heap.size (w.alloc (.cells #[.int .i64 r.a, .int .i64 r.b] 25)) (later (w2.alloc (.cells #[.int .i64 rk, .int .i64 dk] 74)) xq) := bw_later (bw_alloc hbw2 _) xq
        have hml : (later (w2.alloc (.cells #[.int .i64 rk, .int .i64 dk] 74)) xq).heap[gM]? = some (.cells #[.int .i64 N, .int .i64 D] 74 (0, 0)) := ((later_below _ xq).block gM (by simp; omega)).trans ((Below.heap_alloc w2 _ gM hg2l).trans HM2.out)
        generalize (later (w2.alloc (.cells #[.int .i64 rk, .int .i64 dk] 74)) xq) = W2 at hcw hml hbw3 ⊢
        have hwl := hcw.lt
        have hgm2 : gM < W2.heap.size := (Array.getElem?_eq_some_iff.1 hml).1
        have hm30 : W2.cell? ⟨gM, 0, none⟩ = some (.int .i64 N) := by rw [cell_of_row W2 gM 0 _ _ (0, 0) hml]; rfl
        have hm31 : W2.cell? ⟨gM, 1, none⟩ = some (.int .i64 D) := by rw [cell_of_row W2 gM 1 _ _ (0, 0) hml]; rfl
        have hmf2 : ∀ i, W2.frozen? ⟨gM, i, none⟩ = false := fun i => by simp [World.frozen?, hml]
        have HML := Lib.hid hml
        have HB3 := Lib.hid hbw3
        clear hml hbw3
        refine wp_region_C (Cw w w2.heap.size #[.int .i64 rk, .int .i64 dk] 74) (by kernel_rfl) ?_
        ((refine step_readC (i := 0) (by kernel_rfl) (by kernel_rfl) rfl (by repeat (with_reducible first | assumption | refine Cw.later ?_ _ | refine Cw.alloc ?_ _ | refine Cw.drew ?_ | refine Cw.set ?_ ?_ ?_ _)) rfl (fun K hK => ?_); apply Exists.intro; refine ⟨fun wq hq => ?_, ?_⟩; focus (have hq0 := hq.cell 0; have hq1 := hq.cell 1; go_simp; (try go_bits); (try go_simp); (try rfl))); (go_simp; (try go_bits); refine hK _ ?_; clear hK K); (refine step_readC (i := 1) (by kernel_rfl) (by kernel_rfl) rfl (by repeat (with_reducible first | assumption | refine Cw.later ?_ _ | refine Cw.alloc ?_ _ | refine Cw.drew ?_ | refine Cw.set ?_ ?_ ?_ _)) rfl (fun K hK => ?_); apply Exists.intro; refine ⟨fun wq hq => ?_, ?_⟩; focus (have hq0 := hq.cell 0; have hq1 := hq.cell 1; go_simp; (try go_bits); (try go_simp); (try rfl))); (go_simp; (try go_bits); refine hK _ ?_; clear hK K); (refine step_readC (i := 2) (by kernel_rfl) (by kernel_rfl) rfl (by repeat (with_reducible first | assumption | refine Cw.later ?_ _ | refine Cw.alloc ?_ _ | refine Cw.drew ?_ | refine Cw.set ?_ ?_ ?_ _)) rfl (fun K hK => ?_); apply Exists.intro; refine ⟨fun wq hq => ?_, ?_⟩; focus (have hq0 := hq.cell 0; have hq1 := hq.cell 1; go_simp; (try go_bits); (try go_simp); (try rfl))); (go_simp; (try go_bits); refine hK _ ?_; clear hK K))
        (refine step_one (i := 3) (by kernel_rfl) rfl (by repeat (with_reducible first | assumption | refine Cw.later ?_ _ | refine Cw.alloc ?_ _ | refine Cw.drew ?_ | refine Cw.set ?_ ?_ ?_ _)) (fun K hK => ?_); go_wp2; (try refine hK _ _ ?_); (try clear hK K))
        (refine step_end (by kernel_rfl) (by repeat (with_reducible first | assumption | refine Cw.later ?_ _ | refine Cw.alloc ?_ _ | refine Cw.drew ?_ | refine Cw.set ?_ ?_ ?_ _)) ?_)
        go_wp2
        go_roundw
        case rel => exact ⟨k + 1, (k : Int), rk, dk, bw_set (bw_set (bw_drew HB3.out) hgB _) hgB _, by omega, by omega, by go_num, rfl, put_two HML.out _ _, Lib.hid (by rw [hY.out HP.out]; exact ⟨rfl, ERK.out.symm, EDK.out.symm⟩)⟩
        case measure => simp [intOf]; omega
    · have ek : k = (lastAt xs).toNat + 1 := by rw [ez.out]; omega
      have HE := Lib.hid (show lowF xs r gs = (B, N, D, true) by rw [hfin.out, ← ek, lowG, eB, eN, eD])
      clear eB eN eD hst ek
      go_wp2_with ((with_reducible refine wp_region_later (by kernel_rfl) (by kernel_rfl) ?_); (repeat (go_big_quiet_step (fail))); refine wpQuiet_nil ?_; rintro _ ⟨xr, rfl⟩)
      ((try simp only [Exit.inBlock, Exit.then]); refine bodyPost_ret (results_tmp4 rfl _ _ _) rfl ?_)
      exact ⟨by rw [HE.out]; rfl, bw_trans (a := w) (b := (w.alloc (.cells #[.int .i64 r.a, .int .i64 r.b] 25))) (by repeat (with_reducible first | exact Below.refl _ _ | refine bw_later ?_ _ | refine bw_alloc ?_ _ | refine bw_drew ?_ | refine bw_set ?_ (Nat.le_refl _) _ | refine bw_set ?_ ?_ _ | exact Nat.le_refl _ | exact later_size _ _ | refine Nat.le_trans ?_ (later_size _ _) | refine Nat.le_trans ?_ (size_alloc_le _ _) | refine Nat.le_trans ?_ (Nat.le_add_right _ _))) (by repeat (with_reducible first | exact hbw | exact hcw.below | exact Below.refl _ _ | refine bw_later ?_ _ | refine bw_alloc ?_ _ | refine bw_drew ?_ | refine bw_set ?_ hgM _))⟩
end Go.Proofs.Ytkdekpnnnpembaa
