/- The height of a ground at a place. -/
import Derived.Test.YtkdekpnnnpembaaGround
import Derived.Test.YtkdekpnnnpembaaChord
import Derived.Test.YtkdekpnnnpembaaRegionR
namespace Go.Proofs.Ytkdekpnnnpembaa
open Go Go.RowKit
def gI (gs : List R2) (p : Int) : Nat := spanI (fun s => s.a) gs p
def gA (gs : List R2) (p : Int) : R2 := (gs[gI gs p]?).getD ⟨0, 0⟩
def gB (gs : List R2) (p : Int) : R2 := (gs[gI gs p + 1]?).getD ⟨0, 0⟩
structure GroundAt (gs : List R2) (p : Int) : Prop where
  lt : gI gs p + 1 < gs.length
  a : gs[gI gs p]? = some (gA gs p)
  b : gs[gI gs p + 1]? = some (gB gs p)
  le : (gA gs p).a ≤ p ∧ p ≤ (gB gs p).a
  up : (gA gs p).a < (gB gs p).a
  ends : 0 ≤ (gA gs p).a ∧ (gB gs p).a ≤ 3000
  ha : 0 ≤ (gA gs p).b ∧ (gA gs p).b ≤ 2000
  hb : 0 ≤ (gB gs p).b ∧ (gB gs p).b ≤ 2000
theorem ground_t {xs : List Sup} {gs : List R2} (h : groundOk xs gs = true) : okLine xs = true ∧ (2 ≤ gs.length ∧ gs.length ≤ 8) ∧ (∀ r, gs[0]? = some r → r.a = 0) ∧ (∀ r, gs[gs.length - 1]? = some r → r.a = lastAt xs) ∧ chain okG gLt gs = true := by
  simp only [groundOk, Bool.and_eq_true] at h
  obtain ⟨h0, h1, h2, h3, h4⟩ := h
  have hl := inB_t h1
  refine ⟨h0, by omega, fun r hr => ?_, fun r hr => ?_, h4⟩
  · simpa [gHead, hr] using h2
  · simpa [gLast, hr] using h3
theorem ground_up {gs : List R2} (h : chain okG gLt gs = true) : ∀ (d i : Nat) (q r : R2), gs[i]? = some q → gs[i + d]? = some r → q.a ≤ r.a := by
  intro d
  induction d with
  | zero =>
    intro i q r hq hr
    rw [Nat.add_zero, hq] at hr
    cases hr
    exact Int.le_refl _
  | succ d ih =>
    intro i q r hq hr
    have hm : i + d < gs.length := by have := (List.getElem?_eq_some_iff.1 hr).1; omega
    have h1 := ih i q _ hq (List.getElem?_eq_getElem hm)
    have h2 := chain_rel h (List.getElem?_eq_getElem hm) (show gs[i + d + 1]? = some r from hr)
    simp only [gLt, decide_eq_true_eq] at h2
    omega
theorem ground_at {xs : List Sup} {gs : List R2} {p : Int} (h : groundOk xs gs = true) (hp : 0 ≤ p) (hl : p ≤ lastAt xs) : GroundAt gs p := by
  obtain ⟨h0, hlen, hhead, hlast, hc⟩ := ground_t h
  obtain ⟨z, hz, ez, e0, e1⟩ := lastAt_is (line_ok h0)
  have g0 : gs[0]? = some (gs[0]'(by omega)) := List.getElem?_eq_getElem _
  have gz : gs[gs.length - 1]? = some (gs[gs.length - 1]'(by omega)) := List.getElem?_eq_getElem _
  have a0 := hhead _ g0
  have az := hlast _ gz
  obtain ⟨a, b, ha, hb, la, lb⟩ := spanI_is (f := fun s : R2 => s.a) (p := p) g0 gz hlen.1 (by show (gs[0]'(by omega)).a ≤ p; omega) (by show p ≤ (gs[gs.length - 1]'(by omega)).a; omega)
  have hlt : gI gs p + 1 < gs.length := (List.getElem?_eq_some_iff.1 hb).1
  have ea : gA gs p = a := by unfold gA gI; rw [ha]; rfl
  have eb : gB gs p = b := by unfold gB gI; rw [hb]; rfl
  have ka := chain_each hc ha
  have kb := chain_each hc hb
  have hrel := chain_rel hc ha hb
  simp only [gLt, decide_eq_true_eq] at hrel
  have u0 := ground_up hc (gI gs p) 0 _ a g0 (by rw [Nat.zero_add]; exact ha)
  have uz := ground_up hc (gs.length - 1 - (gI gs p + 1)) (gI gs p + 1) b _ hb (by rw [show gI gs p + 1 + (gs.length - 1 - (gI gs p + 1)) = gs.length - 1 by omega]; exact gz)
  refine ⟨hlt, by rw [ea]; exact ha, by rw [eb]; exact hb, by rw [ea, eb]; exact ⟨la, lb⟩, by rw [ea, eb]; exact hrel, by rw [ea, eb]; omega, by rw [ea]; exact inB_t ka, by rw [eb]; exact inB_t kb⟩
def grN (gs : List R2) (p : Int) : Int := (gA gs p).b * ((gB gs p).a - p) + (gB gs p).b * (p - (gA gs p).a)
def grD (gs : List R2) (p : Int) : Int := (gB gs p).a - (gA gs p).a
theorem gr_eq (gs : List R2) (p : Int) : (gA gs p).b * ((gB gs p).a - (gA gs p).a) + ((gB gs p).b - (gA gs p).b) * (p - (gA gs p).a) = grN gs p := by
  unfold grN
  grind
theorem grN_bd {gs : List R2} {p : Int} (h : GroundAt gs p) : 0 ≤ grN gs p ∧ grN gs p ≤ 12000000 := by
  obtain ⟨_, _, _, ⟨l1, l2⟩, up, ⟨e1, e2⟩, ⟨a1, a2⟩, ⟨b1, b2⟩⟩ := h
  obtain ⟨m1, m2⟩ := mul_bd (a := (gA gs p).b) (b := (gB gs p).a - p) (A := 2000) (B := 3000) (by omega) (by omega) (by omega) (by omega)
  obtain ⟨m3, m4⟩ := mul_bd (a := (gB gs p).b) (b := p - (gA gs p).a) (A := 2000) (B := 3000) (by omega) (by omega) (by omega) (by omega)
  unfold grN
  omega
theorem grD_bd {gs : List R2} {p : Int} (h : GroundAt gs p) : 1 ≤ grD gs p ∧ grD gs p ≤ 3000 := by
  obtain ⟨_, _, _, _, up, ⟨e1, e2⟩, _, _⟩ := h
  unfold grD
  omega
set_option maxHeartbeats 1000000 in
theorem groundAt_any (g off m c : Nat) (gs : List R2) (p : Int) (w : World) (ht : SR2 w g off m gs) (hm : m ≤ 1048576) (hG : GroundAt gs p) : Gv Try.prog 65 #[.slice (some ⟨g, off, none⟩) m c, .int .i64 p] w (.agg #[.int .i64 (grN gs p), .int .i64 (grD gs p)]) := by
  unfold Gv
  have hl := Lib.hid ht.2.1
  have hg := ht.1
  have hGG := Lib.hid hG
  have hlt0 := hG.lt
  have h2 : 1 < m := by have := hl.out; omega
  clear hG
  go_enter Try.func65, Try.ntmps65
  go_wp2
  go_loopw [5] (fun i wr => ∃ k : Nat, k + 1 < m ∧ i = .int .i64 (k : Int) ∧ wr = w.alloc (.cells #[.int .i64 0, .int .i64 0] 74) ∧ Hid (∀ j, j < k → ∀ q : R2, gs[j + 1]? = some q → q.a < p)) (fun i _ => m - (intOf i).toNat)
  case atStart => exact ⟨0, by omega, rfl, rfl, fun j hj => absurd hj (by omega)⟩
  case round =>
    obtain ⟨k, hk, rfl, rfl, ha⟩ := hrel
    obtain ⟨r, hr0⟩ := ht.at_ (k := k + 1) hk
    obtain ⟨c0, c1⟩ := ht.2.2 (k + 1) r hr0
    have hr := Lib.hid hr0
    clear hr0
    by_cases hlt : r.a < p
    · have hstep : Hid (∀ j, j < k + 1 → ∀ q : R2, gs[j + 1]? = some q → q.a < p) := Lib.hid fun j hj q hq => by
        rcases Nat.lt_or_ge j k with h | h
        · exact ha.out j h q hq
        · obtain rfl : j = k := by omega
          rw [hr.out] at hq
          cases hq
          exact hlt
      have hk2 : k + 1 + 1 < m := by
        rcases Nat.lt_or_ge (k + 1 + 1) m with h | h
        · exact h
        · exfalso
          have e1 := hl.out
          have e2 := hGG.out.lt
          have := hstep.out (gI gs p) (by omega) _ hGG.out.b
          have := hGG.out.le.2
          omega
      go_wp2
      go_roundw
      case rel => exact ⟨k + 1, hk2, by go_num, by first | rfl | trivial, hstep⟩
      case measure => simp [intOf]; omega
    · have hkk : gI gs p = k := spanI_at hr.out ha.out (by show p ≤ r.a; omega)
      obtain ⟨-, xa, xb, ⟨le1, le2⟩, up, ⟨e1, e2⟩, ⟨ha1, ha2⟩, ⟨hb1, hb2⟩⟩ := hGG.out
      rw [hkk] at xa xb
      obtain ⟨a0, a1⟩ := ht.2.2 _ _ xa
      have hrb : r = gB gs p := by rw [hr.out] at xb; exact Option.some.inj xb
      subst hrb
      clear hkk xa xb
      have hfin := Lib.hid (gr_eq gs p)
      have hd : Hid (grD gs p = (gB gs p).a - (gA gs p).a) := Lib.hid rfl
      generalize gA gs p = A at *
      generalize gB gs p = B at *
      obtain ⟨m1, m2⟩ := mul_bd (a := A.b) (b := B.a - A.a) (A := 2000) (B := 3000) (by omega) (by omega) (by omega) (by omega)
      obtain ⟨m3, m4⟩ := smul_bd (a := B.b - A.b) (b := p - A.a) (A := 2000) (B := 3000) (by omega) (by omega) (by omega) (by omega)
      have iw : IntKind.i64.wrap ((k : Int) + 1) = (k : Int) + 1 := Go.IntWalk.i64_in _ (by omega)
      have i1 : (0 : Int) ≤ (k : Int) + 1 := by omega
      have i2 : (k : Int) + 1 < (m : Int) := by omega
      have i3 : k < m := by omega
      go_wp2
      (refine wp_region_C (Below (w.alloc (.cells #[.int .i64 0, .int .i64 0] 74)).heap.size (w.alloc (.cells #[.int .i64 0, .int .i64 0] 74))) (by kernel_rfl) ?_)
      ((refine step_read (i := 0) (by kernel_rfl) (by kernel_rfl) rfl (by repeat (with_reducible first | exact Below.refl _ _ | refine bw_later ?_ _ | refine bw_alloc ?_ _ | refine bw_drew ?_ | refine bw_set ?_ (Nat.le_refl _) _ | refine bw_set ?_ ?_ _ | exact Nat.le_refl _ | exact later_size _ _ | refine Nat.le_trans ?_ (later_size _ _) | refine Nat.le_trans ?_ (size_alloc_le _ _) | refine Nat.le_trans ?_ (Nat.le_add_right _ _))) rfl (fun K hK => ?_); apply Exists.intro; refine ⟨fun x => ?_, ?_⟩; focus (go_simp; (try go_bits); (try go_simp); (try rfl))); (go_simp; (try go_bits); refine hK _ ?_; clear hK K); (refine step_read (i := 1) (by kernel_rfl) (by kernel_rfl) rfl (by repeat (with_reducible first | exact Below.refl _ _ | refine bw_later ?_ _ | refine bw_alloc ?_ _ | refine bw_drew ?_ | refine bw_set ?_ (Nat.le_refl _) _ | refine bw_set ?_ ?_ _ | exact Nat.le_refl _ | exact later_size _ _ | refine Nat.le_trans ?_ (later_size _ _) | refine Nat.le_trans ?_ (size_alloc_le _ _) | refine Nat.le_trans ?_ (Nat.le_add_right _ _))) rfl (fun K hK => ?_); apply Exists.intro; refine ⟨fun x => ?_, ?_⟩; focus (go_simp; (try go_bits); (try go_simp); (try rfl))); (go_simp; (try go_bits); refine hK _ ?_; clear hK K); (refine step_read (i := 2) (by kernel_rfl) (by kernel_rfl) rfl (by repeat (with_reducible first | exact Below.refl _ _ | refine bw_later ?_ _ | refine bw_alloc ?_ _ | refine bw_drew ?_ | refine bw_set ?_ (Nat.le_refl _) _ | refine bw_set ?_ ?_ _ | exact Nat.le_refl _ | exact later_size _ _ | refine Nat.le_trans ?_ (later_size _ _) | refine Nat.le_trans ?_ (size_alloc_le _ _) | refine Nat.le_trans ?_ (Nat.le_add_right _ _))) rfl (fun K hK => ?_); apply Exists.intro; refine ⟨fun x => ?_, ?_⟩; focus (go_simp; (try go_bits); (try go_simp); (try rfl))); (go_simp; (try go_bits); refine hK _ ?_; clear hK K); (refine step_read (i := 3) (by kernel_rfl) (by kernel_rfl) rfl (by repeat (with_reducible first | exact Below.refl _ _ | refine bw_later ?_ _ | refine bw_alloc ?_ _ | refine bw_drew ?_ | refine bw_set ?_ (Nat.le_refl _) _ | refine bw_set ?_ ?_ _ | exact Nat.le_refl _ | exact later_size _ _ | refine Nat.le_trans ?_ (later_size _ _) | refine Nat.le_trans ?_ (size_alloc_le _ _) | refine Nat.le_trans ?_ (Nat.le_add_right _ _))) rfl (fun K hK => ?_); apply Exists.intro; refine ⟨fun x => ?_, ?_⟩; focus (go_simp; (try go_bits); (try go_simp); (try rfl))); (go_simp; (try go_bits); refine hK _ ?_; clear hK K); (refine step_read (i := 4) (by kernel_rfl) (by kernel_rfl) rfl (by repeat (with_reducible first | exact Below.refl _ _ | refine bw_later ?_ _ | refine bw_alloc ?_ _ | refine bw_drew ?_ | refine bw_set ?_ (Nat.le_refl _) _ | refine bw_set ?_ ?_ _ | exact Nat.le_refl _ | exact later_size _ _ | refine Nat.le_trans ?_ (later_size _ _) | refine Nat.le_trans ?_ (size_alloc_le _ _) | refine Nat.le_trans ?_ (Nat.le_add_right _ _))) rfl (fun K hK => ?_); apply Exists.intro; refine ⟨fun x => ?_, ?_⟩; focus (go_simp; (try go_bits); (try go_simp); (try rfl))); (go_simp; (try go_bits); refine hK _ ?_; clear hK K); (refine step_read (i := 5) (by kernel_rfl) (by kernel_rfl) rfl (by repeat (with_reducible first | exact Below.refl _ _ | refine bw_later ?_ _ | refine bw_alloc ?_ _ | refine bw_drew ?_ | refine bw_set ?_ (Nat.le_refl _) _ | refine bw_set ?_ ?_ _ | exact Nat.le_refl _ | exact later_size _ _ | refine Nat.le_trans ?_ (later_size _ _) | refine Nat.le_trans ?_ (size_alloc_le _ _) | refine Nat.le_trans ?_ (Nat.le_add_right _ _))) rfl (fun K hK => ?_); apply Exists.intro; refine ⟨fun x => ?_, ?_⟩; focus (go_simp; (try go_bits); (try go_simp); (try rfl))); (go_simp; (try go_bits); refine hK _ ?_; clear hK K); (refine step_read (i := 6) (by kernel_rfl) (by kernel_rfl) rfl (by repeat (with_reducible first | exact Below.refl _ _ | refine bw_later ?_ _ | refine bw_alloc ?_ _ | refine bw_drew ?_ | refine bw_set ?_ (Nat.le_refl _) _ | refine bw_set ?_ ?_ _ | exact Nat.le_refl _ | exact later_size _ _ | refine Nat.le_trans ?_ (later_size _ _) | refine Nat.le_trans ?_ (size_alloc_le _ _) | refine Nat.le_trans ?_ (Nat.le_add_right _ _))) rfl (fun K hK => ?_); apply Exists.intro; refine ⟨fun x => ?_, ?_⟩; focus (go_simp; (try go_bits); (try go_simp); (try rfl))); (go_simp; (try go_bits); refine hK _ ?_; clear hK K); (refine step_read (i := 7) (by kernel_rfl) (by kernel_rfl) rfl (by repeat (with_reducible first | exact Below.refl _ _ | refine bw_later ?_ _ | refine bw_alloc ?_ _ | refine bw_drew ?_ | refine bw_set ?_ (Nat.le_refl _) _ | refine bw_set ?_ ?_ _ | exact Nat.le_refl _ | exact later_size _ _ | refine Nat.le_trans ?_ (later_size _ _) | refine Nat.le_trans ?_ (size_alloc_le _ _) | refine Nat.le_trans ?_ (Nat.le_add_right _ _))) rfl (fun K hK => ?_); apply Exists.intro; refine ⟨fun x => ?_, ?_⟩; focus (go_simp; (try go_bits); (try go_simp); (try rfl))); (go_simp; (try go_bits); refine hK _ ?_; clear hK K); (refine step_read (i := 8) (by kernel_rfl) (by kernel_rfl) rfl (by repeat (with_reducible first | exact Below.refl _ _ | refine bw_later ?_ _ | refine bw_alloc ?_ _ | refine bw_drew ?_ | refine bw_set ?_ (Nat.le_refl _) _ | refine bw_set ?_ ?_ _ | exact Nat.le_refl _ | exact later_size _ _ | refine Nat.le_trans ?_ (later_size _ _) | refine Nat.le_trans ?_ (size_alloc_le _ _) | refine Nat.le_trans ?_ (Nat.le_add_right _ _))) rfl (fun K hK => ?_); apply Exists.intro; refine ⟨fun x => ?_, ?_⟩; focus (go_simp; (try go_bits); (try go_simp); (try rfl))); (go_simp; (try go_bits); refine hK _ ?_; clear hK K))
      refine step_two (i := 9) (i' := 10) (by kernel_rfl) rfl rfl (by repeat (with_reducible first | exact Below.refl _ _ | refine bw_later ?_ _ | refine bw_alloc ?_ _ | refine bw_drew ?_ | refine bw_set ?_ (Nat.le_refl _) _ | refine bw_set ?_ ?_ _ | exact Nat.le_refl _ | exact later_size _ _ | refine Nat.le_trans ?_ (later_size _ _) | refine Nat.le_trans ?_ (size_alloc_le _ _) | refine Nat.le_trans ?_ (Nat.le_add_right _ _))) (fun K hK => ?_) (fun K hK => ?_); (focus (go_wp2; (try refine hK _ _ ?_); (try clear hK K); (refine step_one (i := 10) (by kernel_rfl) rfl (by repeat (with_reducible first | exact Below.refl _ _ | refine bw_later ?_ _ | refine bw_alloc ?_ _ | refine bw_drew ?_ | refine bw_set ?_ (Nat.le_refl _) _ | refine bw_set ?_ ?_ _ | exact Nat.le_refl _ | exact later_size _ _ | refine Nat.le_trans ?_ (later_size _ _) | refine Nat.le_trans ?_ (size_alloc_le _ _) | refine Nat.le_trans ?_ (Nat.le_add_right _ _))) (fun K hK => ?_); go_wp2; (try refine hK _ _ ?_); (try clear hK K)); (refine step_one (i := 11) (by kernel_rfl) rfl (by repeat (with_reducible first | exact Below.refl _ _ | refine bw_later ?_ _ | refine bw_alloc ?_ _ | refine bw_drew ?_ | refine bw_set ?_ (Nat.le_refl _) _ | refine bw_set ?_ ?_ _ | exact Nat.le_refl _ | exact later_size _ _ | refine Nat.le_trans ?_ (later_size _ _) | refine Nat.le_trans ?_ (size_alloc_le _ _) | refine Nat.le_trans ?_ (Nat.le_add_right _ _))) (fun K hK => ?_); go_wp2; (try refine hK _ _ ?_); (try clear hK K)); (refine step_one (i := 12) (by kernel_rfl) rfl (by repeat (with_reducible first | exact Below.refl _ _ | refine bw_later ?_ _ | refine bw_alloc ?_ _ | refine bw_drew ?_ | refine bw_set ?_ (Nat.le_refl _) _ | refine bw_set ?_ ?_ _ | exact Nat.le_refl _ | exact later_size _ _ | refine Nat.le_trans ?_ (later_size _ _) | refine Nat.le_trans ?_ (size_alloc_le _ _) | refine Nat.le_trans ?_ (Nat.le_add_right _ _))) (fun K hK => ?_); go_wp2; (try refine hK _ _ ?_); (try clear hK K)); (refine step_end (by kernel_rfl) (by repeat (with_reducible first | exact Below.refl _ _ | refine bw_later ?_ _ | refine bw_alloc ?_ _ | refine bw_drew ?_ | refine bw_set ?_ (Nat.le_refl _) _ | refine bw_set ?_ ?_ _ | exact Nat.le_refl _ | exact later_size _ _ | refine Nat.le_trans ?_ (later_size _ _) | refine Nat.le_trans ?_ (size_alloc_le _ _) | refine Nat.le_trans ?_ (Nat.le_add_right _ _))) ?_); go_wp2; exact bodyPost_ret (v := .agg #[.int .i64 (A.b * (B.a - A.a) + (B.b - A.b) * (p - A.a)), .int .i64 (B.a - A.a)]) (by simp [results, go_sem]) rfl ⟨by rw [hfin.out, hd.out], (by repeat (with_reducible first | exact Below.refl _ _ | refine bw_later ?_ _ | refine bw_alloc ?_ _ | refine bw_drew ?_ | refine bw_set ?_ (Nat.le_refl _) _ | refine bw_set ?_ ?_ _ | exact Nat.le_refl _ | exact later_size _ _ | refine Nat.le_trans ?_ (later_size _ _) | refine Nat.le_trans ?_ (size_alloc_le _ _) | refine Nat.le_trans ?_ (Nat.le_add_right _ _)))⟩)); (focus (go_wp2; (try refine hK _ _ ?_); (try clear hK K); (refine step_one (i := 9) (by kernel_rfl) rfl (by repeat (with_reducible first | exact Below.refl _ _ | refine bw_later ?_ _ | refine bw_alloc ?_ _ | refine bw_drew ?_ | refine bw_set ?_ (Nat.le_refl _) _ | refine bw_set ?_ ?_ _ | exact Nat.le_refl _ | exact later_size _ _ | refine Nat.le_trans ?_ (later_size _ _) | refine Nat.le_trans ?_ (size_alloc_le _ _) | refine Nat.le_trans ?_ (Nat.le_add_right _ _))) (fun K hK => ?_); go_wp2; (try refine hK _ _ ?_); (try clear hK K)); (refine step_one (i := 11) (by kernel_rfl) rfl (by repeat (with_reducible first | exact Below.refl _ _ | refine bw_later ?_ _ | refine bw_alloc ?_ _ | refine bw_drew ?_ | refine bw_set ?_ (Nat.le_refl _) _ | refine bw_set ?_ ?_ _ | exact Nat.le_refl _ | exact later_size _ _ | refine Nat.le_trans ?_ (later_size _ _) | refine Nat.le_trans ?_ (size_alloc_le _ _) | refine Nat.le_trans ?_ (Nat.le_add_right _ _))) (fun K hK => ?_); go_wp2; (try refine hK _ _ ?_); (try clear hK K)); (refine step_one (i := 12) (by kernel_rfl) rfl (by repeat (with_reducible first | exact Below.refl _ _ | refine bw_later ?_ _ | refine bw_alloc ?_ _ | refine bw_drew ?_ | refine bw_set ?_ (Nat.le_refl _) _ | refine bw_set ?_ ?_ _ | exact Nat.le_refl _ | exact later_size _ _ | refine Nat.le_trans ?_ (later_size _ _) | refine Nat.le_trans ?_ (size_alloc_le _ _) | refine Nat.le_trans ?_ (Nat.le_add_right _ _))) (fun K hK => ?_); go_wp2; (try refine hK _ _ ?_); (try clear hK K)); (refine step_end (by kernel_rfl) (by repeat (with_reducible first | exact Below.refl _ _ | refine bw_later ?_ _ | refine bw_alloc ?_ _ | refine bw_drew ?_ | refine bw_set ?_ (Nat.le_refl _) _ | refine bw_set ?_ ?_ _ | exact Nat.le_refl _ | exact later_size _ _ | refine Nat.le_trans ?_ (later_size _ _) | refine Nat.le_trans ?_ (size_alloc_le _ _) | refine Nat.le_trans ?_ (Nat.le_add_right _ _))) ?_); go_wp2; exact bodyPost_ret (v := .agg #[.int .i64 (A.b * (B.a - A.a) + (B.b - A.b) * (p - A.a)), .int .i64 (B.a - A.a)]) (by simp [results, go_sem]) rfl ⟨by rw [hfin.out, hd.out], (by repeat (with_reducible first | exact Below.refl _ _ | refine bw_later ?_ _ | refine bw_alloc ?_ _ | refine bw_drew ?_ | refine bw_set ?_ (Nat.le_refl _) _ | refine bw_set ?_ ?_ _ | exact Nat.le_refl _ | exact later_size _ _ | refine Nat.le_trans ?_ (later_size _ _) | refine Nat.le_trans ?_ (size_alloc_le _ _) | refine Nat.le_trans ?_ (Nat.le_add_right _ _)))⟩))
end Go.Proofs.Ytkdekpnnnpembaa
