/- The greatest tension. -/
import Derived.Test.YtppgfgklnfpgdaaUps
namespace Go.Proofs.Ytppgfgklnfpgdaa
open Go.RowKit
/-- The index of the greatest of the first k numbers, the first of them. -/
def greatI (t : Nat → Int) : Nat → Nat
  | 0 => 0
  | k + 1 => if t (greatI t k) < t k then k else greatI t k
theorem greatI_yes {t : Nat → Int} {k : Nat} (h : t (greatI t k) < t k) : greatI t (k + 1) = k := by simp [greatI, h]
theorem greatI_no {t : Nat → Int} {k : Nat} (h : ¬ t (greatI t k) < t k) : greatI t (k + 1) = greatI t k := by simp [greatI, h]
theorem greatI_one (t : Nat → Int) : greatI t 1 = 0 := by simp [greatI]
theorem greatI_lt (t : Nat → Int) (k n : Nat) (hk : k ≤ n) (h0 : 0 < n) : greatI t k < n := by
  induction k with
  | zero => exact h0
  | succ k ih =>
    by_cases h : t (greatI t k) < t k
    · rw [greatI_yes h]; omega
    · rw [greatI_no h]; exact ih (by omega)
def greatF (xs : List Sup) (x : R3) : Int × Int × Bool := if upB x.c xs x then ((greatI (tenAt xs x x.c) xs.length : Int), tenAt xs x x.c (greatI (tenAt xs x x.c) xs.length), true) else (0, 0, false)
set_option maxHeartbeats 1000000 in
theorem i_GreatestTension_any (g off n c : Nat) (xs : List Sup) (x : R3) (w : World) (hs : SSup w g off n xs) (hn : n ≤ 1048576) : Gv Try.prog 23 #[.slice (some ⟨g, off, none⟩) n c, x.v] w (.tuple #[.int .i64 ((greatF xs x)).1, .int .i64 (((greatF xs x)).2).1, .bool (((greatF xs x)).2).2]) := by
  unfold Gv
  have hle := Lib.hid hs.2.1
  cases h1 : upB x.c xs x
  · have hfin := Lib.hid (show greatF xs x = (0, 0, false) by simp [greatF, h1])
    unfold R3.v
    go_enter Try.func23, Try.ntmps23
    go_wp2_with (go_at_call 43; refine Calls.mono (up_no (i_up_any g off _ c xs x _ (by first | exact hs | exact hs.later _ | exact hs.alloc _ | exact (hs.alloc _).later _ | exact (hs.later _).alloc _ | exact ((hs.later _).alloc _).later _ | exact ((hs.alloc _).later _).alloc _) hn) h1) ?_; rintro _ w1 ⟨⟨A1, d1, rfl⟩, b1⟩; obtain ⟨y1, rfl⟩ := exists_later (bw_trans (a := (w.alloc (.cells #[.int .i64 x.a, .int .i64 x.b, .int .i64 x.c] 25))) (by repeat (with_reducible first | exact Below.refl _ _ | refine bw_later ?_ _ | refine bw_alloc ?_ _ | refine bw_drew ?_ | refine bw_set ?_ (Nat.le_refl _) _ | refine bw_set ?_ (later_size _ _) _ | refine bw_set ?_ (Nat.le_trans (later_size _ _) (Nat.le_add_right _ _)) _ | refine bw_set ?_ (Nat.le_trans (Nat.le_add_right _ 1) (later_size _ _)) _ | refine bw_set ?_ (Nat.le_trans (Nat.le_trans (Nat.le_add_right _ 1) (later_size _ _)) (Nat.le_add_right _ _)) _  | refine bw_set ?_ (Nat.le_add_right _ _) _)) b1); clear b1)
    go_ret3
    exact ⟨by rw [hfin.out]; rfl, (by repeat (with_reducible first | exact Below.refl _ _ | refine bw_later ?_ _ | refine bw_alloc ?_ _ | refine bw_drew ?_ | refine bw_set ?_ (Nat.le_refl _) _ | refine bw_set ?_ (later_size _ _) _ | refine bw_set ?_ (Nat.le_trans (later_size _ _) (Nat.le_add_right _ _)) _ | refine bw_set ?_ (Nat.le_trans (Nat.le_add_right _ 1) (later_size _ _)) _ | refine bw_set ?_ (Nat.le_trans (Nat.le_trans (Nat.le_add_right _ 1) (later_size _ _)) (Nat.le_add_right _ _)) _  | refine bw_set ?_ (Nat.le_add_right _ _) _))⟩
  have hpos : 1 < n := by have := (upB_t h1).1.len; have := hle.out; omega
  have hpos0 : 0 < n := by omega
  have hfin := Lib.hid (show greatF xs x = ((greatI (tenAt xs x x.c) n : Int), tenAt xs x x.c (greatI (tenAt xs x x.c) n), true) by simp [greatF, h1, hs.2.1])
  unfold R3.v
  go_enter Try.func23, Try.ntmps23
  go_wp2_with (go_at_call 43; refine Calls.mono (up_yes (i_up_any g off _ c xs x _ (by first | exact hs | exact hs.later _ | exact hs.alloc _ | exact (hs.alloc _).later _ | exact (hs.later _).alloc _ | exact ((hs.later _).alloc _).later _ | exact ((hs.alloc _).later _).alloc _) hn) h1 hle.out hpos0) ?_; rintro _ w1 ⟨⟨g1, d1, rfl, q1, z1, c1⟩, b1⟩; obtain ⟨y1, rfl⟩ := exists_later (bw_trans (a := (w.alloc (.cells #[.int .i64 x.a, .int .i64 x.b, .int .i64 x.c] 25))) (by repeat (with_reducible first | exact Below.refl _ _ | refine bw_later ?_ _ | refine bw_alloc ?_ _ | refine bw_drew ?_ | refine bw_set ?_ (Nat.le_refl _) _ | refine bw_set ?_ (later_size _ _) _ | refine bw_set ?_ (Nat.le_trans (later_size _ _) (Nat.le_add_right _ _)) _ | refine bw_set ?_ (Nat.le_trans (Nat.le_add_right _ 1) (later_size _ _)) _ | refine bw_set ?_ (Nat.le_trans (Nat.le_trans (Nat.le_add_right _ 1) (later_size _ _)) (Nat.le_add_right _ _)) _  | refine bw_set ?_ (Nat.le_add_right _ _) _)) b1); have C1 := Lib.hid c1; clear b1 c1 q1)
  go_loopw [9, 22] (fun t i wr => ∃ k : Nat, 0 ≤ k ∧ k ≤ n ∧ i = .int .i64 (k : Int) ∧ t = .int .i64 (greatI (tenAt xs x x.c) k : Int) ∧ Below (later (w.alloc (.cells #[.int .i64 x.a, .int .i64 x.b, .int .i64 x.c] 25)) y1).heap.size (later (w.alloc (.cells #[.int .i64 x.a, .int .i64 x.b, .int .i64 x.c] 25)) y1) wr) (fun _ i _ => n - (intOf i).toNat)
  case atStart => exact ⟨0, by omega, by omega, rfl, rfl, Below.refl _ _⟩
  case round =>
    obtain ⟨k, hk0, hk, rfl, rfl, hb⟩ := hrel
    obtain ⟨y, rfl⟩ := exists_later hb
    clear hb
    have hG := greatI_lt (tenAt xs x x.c) k n hk hpos0
    have cg := C1.out _ hG
    by_cases hlt : k < n
    · have ck := C1.out k hlt
      by_cases hgt : tenAt xs x x.c (greatI (tenAt xs x x.c) k) < tenAt xs x x.c k
      · have Hg := Lib.hid hgt
        have hd : decide (tenAt xs x x.c (greatI (tenAt xs x x.c) k) < tenAt xs x x.c k) = true := by simpa using hgt
        go_wp2_with fail
        go_roundw
        case rel => exact ⟨k + 1, by omega, by omega, by go_num, by rw [greatI_yes Hg.out], (by repeat (with_reducible first | exact Below.refl _ _ | refine bw_later ?_ _ | refine bw_alloc ?_ _ | refine bw_drew ?_ | refine bw_set ?_ (Nat.le_refl _) _ | refine bw_set ?_ (later_size _ _) _ | refine bw_set ?_ (Nat.le_trans (later_size _ _) (Nat.le_add_right _ _)) _ | refine bw_set ?_ (Nat.le_trans (Nat.le_add_right _ 1) (later_size _ _)) _ | refine bw_set ?_ (Nat.le_trans (Nat.le_trans (Nat.le_add_right _ 1) (later_size _ _)) (Nat.le_add_right _ _)) _  | refine bw_set ?_ (Nat.le_add_right _ _) _))⟩
        case measure => simp [intOf]; omega
      · have Hg := Lib.hid hgt
        have hd : decide (tenAt xs x x.c (greatI (tenAt xs x x.c) k) < tenAt xs x x.c k) = false := by simpa using hgt
        go_wp2_with fail
        go_roundw
        case rel => exact ⟨k + 1, by omega, by omega, by go_num, by rw [greatI_no Hg.out], (by repeat (with_reducible first | exact Below.refl _ _ | refine bw_later ?_ _ | refine bw_alloc ?_ _ | refine bw_drew ?_ | refine bw_set ?_ (Nat.le_refl _) _ | refine bw_set ?_ (later_size _ _) _ | refine bw_set ?_ (Nat.le_trans (later_size _ _) (Nat.le_add_right _ _)) _ | refine bw_set ?_ (Nat.le_trans (Nat.le_add_right _ 1) (later_size _ _)) _ | refine bw_set ?_ (Nat.le_trans (Nat.le_trans (Nat.le_add_right _ 1) (later_size _ _)) (Nat.le_add_right _ _)) _  | refine bw_set ?_ (Nat.le_add_right _ _) _))⟩
        case measure => simp [intOf]; omega
    · obtain rfl : k = n := by omega
      go_wp2_with ((with_reducible refine wp_region_later (by kernel_rfl) (by kernel_rfl) ?_); (repeat (go_big_quiet_step (fail))); refine wpQuiet_nil ?_; rintro _ ⟨xr, rfl⟩)
      go_ret3
      exact ⟨by rw [hfin.out]; rfl, (by repeat (with_reducible first | exact Below.refl _ _ | refine bw_later ?_ _ | refine bw_alloc ?_ _ | refine bw_drew ?_ | refine bw_set ?_ (Nat.le_refl _) _ | refine bw_set ?_ (later_size _ _) _ | refine bw_set ?_ (Nat.le_trans (later_size _ _) (Nat.le_add_right _ _)) _ | refine bw_set ?_ (Nat.le_trans (Nat.le_add_right _ 1) (later_size _ _)) _ | refine bw_set ?_ (Nat.le_trans (Nat.le_trans (Nat.le_add_right _ 1) (later_size _ _)) (Nat.le_add_right _ _)) _  | refine bw_set ?_ (Nat.le_add_right _ _) _))⟩
set_option maxHeartbeats 1000000 in
theorem s_GreatestTension_any (g off n c : Nat) (xs : List Sup) (x : R3) (w : World) (hs : SSup w g off n xs) (hn : n ≤ 1048576) : Gv Try.prog 22 #[.slice (some ⟨g, off, none⟩) n c, x.v] w (.tuple #[.int .i64 ((greatF xs x)).1, .int .i64 (((greatF xs x)).2).1, .bool (((greatF xs x)).2).2]) := by
  unfold Gv
  have hle := Lib.hid hs.2.1
  cases h1 : upB x.c xs x
  · have hfin := Lib.hid (show greatF xs x = (0, 0, false) by simp [greatF, h1])
    unfold R3.v
    go_enter Try.func22, Try.ntmps22
    go_wp2_with (go_at_call 30; refine Calls.mono (up_no (s_up_any g off _ c xs x _ (by first | exact hs | exact hs.later _ | exact hs.alloc _ | exact (hs.alloc _).later _ | exact (hs.later _).alloc _ | exact ((hs.later _).alloc _).later _ | exact ((hs.alloc _).later _).alloc _) hn) h1) ?_; rintro _ w1 ⟨⟨A1, d1, rfl⟩, b1⟩; obtain ⟨y1, rfl⟩ := exists_later (bw_trans (a := (w.alloc (.cells #[.int .i64 x.a, .int .i64 x.b, .int .i64 x.c] 25))) (by repeat (with_reducible first | exact Below.refl _ _ | refine bw_later ?_ _ | refine bw_alloc ?_ _ | refine bw_drew ?_ | refine bw_set ?_ (Nat.le_refl _) _ | refine bw_set ?_ (later_size _ _) _ | refine bw_set ?_ (Nat.le_trans (later_size _ _) (Nat.le_add_right _ _)) _ | refine bw_set ?_ (Nat.le_trans (Nat.le_add_right _ 1) (later_size _ _)) _ | refine bw_set ?_ (Nat.le_trans (Nat.le_trans (Nat.le_add_right _ 1) (later_size _ _)) (Nat.le_add_right _ _)) _  | refine bw_set ?_ (Nat.le_add_right _ _) _)) b1); clear b1)
    go_ret3
    exact ⟨by rw [hfin.out]; rfl, (by repeat (with_reducible first | exact Below.refl _ _ | refine bw_later ?_ _ | refine bw_alloc ?_ _ | refine bw_drew ?_ | refine bw_set ?_ (Nat.le_refl _) _ | refine bw_set ?_ (later_size _ _) _ | refine bw_set ?_ (Nat.le_trans (later_size _ _) (Nat.le_add_right _ _)) _ | refine bw_set ?_ (Nat.le_trans (Nat.le_add_right _ 1) (later_size _ _)) _ | refine bw_set ?_ (Nat.le_trans (Nat.le_trans (Nat.le_add_right _ 1) (later_size _ _)) (Nat.le_add_right _ _)) _  | refine bw_set ?_ (Nat.le_add_right _ _) _))⟩
  have hpos : 1 < n := by have := (upB_t h1).1.len; have := hle.out; omega
  have hpos0 : 0 < n := by omega
  have hfin := Lib.hid (show greatF xs x = ((greatI (tenAt xs x x.c) n : Int), tenAt xs x x.c (greatI (tenAt xs x x.c) n), true) by simp [greatF, h1, hs.2.1])
  unfold R3.v
  go_enter Try.func22, Try.ntmps22
  go_wp2_with (go_at_call 30; refine Calls.mono (up_yes (s_up_any g off _ c xs x _ (by first | exact hs | exact hs.later _ | exact hs.alloc _ | exact (hs.alloc _).later _ | exact (hs.later _).alloc _ | exact ((hs.later _).alloc _).later _ | exact ((hs.alloc _).later _).alloc _) hn) h1 hle.out hpos0) ?_; rintro _ w1 ⟨⟨g1, d1, rfl, q1, z1, c1⟩, b1⟩; obtain ⟨y1, rfl⟩ := exists_later (bw_trans (a := (w.alloc (.cells #[.int .i64 x.a, .int .i64 x.b, .int .i64 x.c] 25))) (by repeat (with_reducible first | exact Below.refl _ _ | refine bw_later ?_ _ | refine bw_alloc ?_ _ | refine bw_drew ?_ | refine bw_set ?_ (Nat.le_refl _) _ | refine bw_set ?_ (later_size _ _) _ | refine bw_set ?_ (Nat.le_trans (later_size _ _) (Nat.le_add_right _ _)) _ | refine bw_set ?_ (Nat.le_trans (Nat.le_add_right _ 1) (later_size _ _)) _ | refine bw_set ?_ (Nat.le_trans (Nat.le_trans (Nat.le_add_right _ 1) (later_size _ _)) (Nat.le_add_right _ _)) _  | refine bw_set ?_ (Nat.le_add_right _ _) _)) b1); have C1 := Lib.hid c1; clear b1 c1 q1)
  go_loopw [9, 10] (fun t i wr => ∃ k : Nat, 1 ≤ k ∧ k ≤ n ∧ i = .int .i64 (k : Int) ∧ t = .int .i64 (greatI (tenAt xs x x.c) k : Int) ∧ Below (later (w.alloc (.cells #[.int .i64 x.a, .int .i64 x.b, .int .i64 x.c] 25)) y1).heap.size (later (w.alloc (.cells #[.int .i64 x.a, .int .i64 x.b, .int .i64 x.c] 25)) y1) wr) (fun _ i _ => n - (intOf i).toNat)
  case atStart => exact ⟨1, by omega, by omega, rfl, by rw [greatI_one]; rfl, Below.refl _ _⟩
  case round =>
    obtain ⟨k, hk0, hk, rfl, rfl, hb⟩ := hrel
    obtain ⟨y, rfl⟩ := exists_later hb
    clear hb
    have hG := greatI_lt (tenAt xs x x.c) k n hk hpos0
    have cg := C1.out _ hG
    by_cases hlt : k < n
    · have ck := C1.out k hlt
      by_cases hgt : tenAt xs x x.c (greatI (tenAt xs x x.c) k) < tenAt xs x x.c k
      · have Hg := Lib.hid hgt
        have hd : decide (tenAt xs x x.c (greatI (tenAt xs x x.c) k) < tenAt xs x x.c k) = true := by simpa using hgt
        go_wp2_with ((with_reducible refine wp_region_later (by kernel_rfl) (by kernel_rfl) ?_); (repeat (go_big_quiet_step (fail))); refine wpQuiet_nil ?_; rintro _ ⟨xr, rfl⟩)
        go_roundw
        case rel => exact ⟨k + 1, by omega, by omega, by go_num, by rw [greatI_yes Hg.out], (by repeat (with_reducible first | exact Below.refl _ _ | refine bw_later ?_ _ | refine bw_alloc ?_ _ | refine bw_drew ?_ | refine bw_set ?_ (Nat.le_refl _) _ | refine bw_set ?_ (later_size _ _) _ | refine bw_set ?_ (Nat.le_trans (later_size _ _) (Nat.le_add_right _ _)) _ | refine bw_set ?_ (Nat.le_trans (Nat.le_add_right _ 1) (later_size _ _)) _ | refine bw_set ?_ (Nat.le_trans (Nat.le_trans (Nat.le_add_right _ 1) (later_size _ _)) (Nat.le_add_right _ _)) _  | refine bw_set ?_ (Nat.le_add_right _ _) _))⟩
        case measure => simp [intOf]; omega
      · have Hg := Lib.hid hgt
        have hd : decide (tenAt xs x x.c (greatI (tenAt xs x x.c) k) < tenAt xs x x.c k) = false := by simpa using hgt
        go_wp2_with ((with_reducible refine wp_region_later (by kernel_rfl) (by kernel_rfl) ?_); (repeat (go_big_quiet_step (fail))); refine wpQuiet_nil ?_; rintro _ ⟨xr, rfl⟩)
        go_roundw
        case rel => exact ⟨k + 1, by omega, by omega, by go_num, by rw [greatI_no Hg.out], (by repeat (with_reducible first | exact Below.refl _ _ | refine bw_later ?_ _ | refine bw_alloc ?_ _ | refine bw_drew ?_ | refine bw_set ?_ (Nat.le_refl _) _ | refine bw_set ?_ (later_size _ _) _ | refine bw_set ?_ (Nat.le_trans (later_size _ _) (Nat.le_add_right _ _)) _ | refine bw_set ?_ (Nat.le_trans (Nat.le_add_right _ 1) (later_size _ _)) _ | refine bw_set ?_ (Nat.le_trans (Nat.le_trans (Nat.le_add_right _ 1) (later_size _ _)) (Nat.le_add_right _ _)) _  | refine bw_set ?_ (Nat.le_add_right _ _) _))⟩
        case measure => simp [intOf]; omega
    · obtain rfl : k = n := by omega
      go_wp2_with ((with_reducible refine wp_region_later (by kernel_rfl) (by kernel_rfl) ?_); (repeat (go_big_quiet_step (fail))); refine wpQuiet_nil ?_; rintro _ ⟨xr, rfl⟩)
      go_ret3
      exact ⟨by rw [hfin.out]; rfl, (by repeat (with_reducible first | exact Below.refl _ _ | refine bw_later ?_ _ | refine bw_alloc ?_ _ | refine bw_drew ?_ | refine bw_set ?_ (Nat.le_refl _) _ | refine bw_set ?_ (later_size _ _) _ | refine bw_set ?_ (Nat.le_trans (later_size _ _) (Nat.le_add_right _ _)) _ | refine bw_set ?_ (Nat.le_trans (Nat.le_add_right _ 1) (later_size _ _)) _ | refine bw_set ?_ (Nat.le_trans (Nat.le_trans (Nat.le_add_right _ 1) (later_size _ _)) (Nat.le_add_right _ _)) _  | refine bw_set ?_ (Nat.le_add_right _ _) _))⟩
theorem law_GreatestTension (A0 : Option Addr) (n0 c0 : Nat) (xs0 : List Sup) (r1 : R3) (w : World) (rd0 : ASup w A0 n0 xs0 ∧ n0 ≤ 9223372036854775807) : Gv Try.prog 6 #[.slice A0 n0 c0, r1.v] w (.bool true) := by
  obtain ⟨ha0, hm0⟩ := rd0
  replace ha0 := ha0.below2 (w' := (w.alloc (.cells #[.int .i64 r1.a, .int .i64 r1.b, .int .i64 r1.c] 23))) (bw_alloc (Below.refl _ _) _)
  unfold Gv
  unfold R3.v
  by_cases k0 : 1048576 < n0
  · have z0 : szF n0 ((1048576 : Int)) = -1 := by unfold szF; rw [if_pos (by omega)]
    go_enter Try.func6, Try.ntmps6
    go_wp2_with fail
    refine Calls.mono (szSupport_any A0 n0 c0 ((1048576 : Int)) hm0 (by omega) (by omega) _) ?_
    rintro _ w1 ⟨rfl, b1⟩
    have hw := b1
    rw [z0]
    clear z0
    go_wp2_with fail
    go_ret
    exact ⟨rfl, bw_trans (bw_alloc (Below.refl _ _) _) hw⟩
  · have hn0 : n0 ≤ 1048576 := by omega
    have z0 : szF n0 ((1048576 : Int)) = (1048576 : Int) - (n0 : Int) := by unfold szF; rw [if_neg (by omega)]
    go_enter Try.func6, Try.ntmps6
    go_wp2_with fail
    refine Calls.mono (szSupport_any A0 n0 c0 ((1048576 : Int)) hm0 (by omega) (by omega) _) ?_
    rintro _ w1 ⟨rfl, b1⟩
    replace ha0 := ha0.below2 b1
    have hw := b1
    rw [z0]
    clear z0
    go_wp2_with fail
    (refine wp_region_C (Below (w1).heap.size (w1)) (by kernel_rfl) ?_)
    generalize hgd2 : w1.drew = w2
    have b2 : Below w1.heap.size w1 w2 := by rw [← hgd2]; exact (Below.refl _ _).drew
    clear hgd2
    have f1_0 : w1.cell? ⟨w.heap.size, 0, none⟩ = some (.int .i64 r1.a) := (hw.cell (p := ⟨_, _, none⟩) (by simp)).trans (by simp [go_sem])
    have f1_1 : w1.cell? ⟨w.heap.size, 1, none⟩ = some (.int .i64 r1.b) := (hw.cell (p := ⟨_, _, none⟩) (by simp)).trans (by simp [go_sem])
    have f1_2 : w1.cell? ⟨w.heap.size, 2, none⟩ = some (.int .i64 r1.c) := (hw.cell (p := ⟨_, _, none⟩) (by simp)).trans (by simp [go_sem])
    have g1_ : w.heap.size < w1.heap.size := by have := hw.size; simp at this; omega
    have hreg := b2
    refine step_read (i := 0) (by kernel_rfl) (by kernel_rfl) rfl hreg rfl (fun K hK => ?_)
    apply Exists.intro
    refine ⟨fun x => ?_, ?_⟩
    · go_simp; (try rfl)
    go_simp; refine hK _ ?_; clear hK K
    refine step_read (i := 2) (by kernel_rfl) (by kernel_rfl) rfl hreg rfl (fun K hK => ?_)
    apply Exists.intro
    refine ⟨fun x => ?_, ?_⟩
    · go_simp; (try rfl)
    go_simp; refine hK _ ?_; clear hK K
    clear f1_0 f1_1 f1_2 g1_
    replace ha0 := ha0.below2 b2
    replace hw := bw_trans hw b2
    refine step_one (i := 1) (by kernel_rfl) rfl hreg (fun K hK => ?_)
    go_wp2_with fail
    refine Calls.mono (toSupportS_any A0 n0 c0 xs0 _ ha0 hn0) ?_
    rintro _ w3 ⟨g3, rfl, q3, hB3, b3⟩
    replace ha0 := ha0.below2 b3
    replace hw := bw_trans hw b3
    replace hreg := bw_trans hreg b3
    (try go_wp2)
    (try refine hK _ _ ?_)
    (try clear hK K)
    refine step_one (i := 3) (by kernel_rfl) rfl hreg (fun K hK => ?_)
    go_wp2_with fail
    refine Calls.mono (toLoadCase_any r1 _) ?_
    rintro _ w4 ⟨rfl, b4⟩
    replace ha0 := ha0.below2 b4
    replace hB3 := hB3.below2 b4
    replace hw := bw_trans hw b4
    (try unfold R3.v)
    replace hreg := bw_trans hreg b4
    (try go_wp2)
    (try refine hK _ _ ?_)
    (try clear hK K)
    refine step_one (i := 4) (by kernel_rfl) rfl hreg (fun K hK => ?_)
    go_wp2_with fail
    refine Calls.mono (s_GreatestTension_any g3 0 n0 n0 xs0 r1 _ hB3.reads hn0) ?_
    rintro _ w5 ⟨rfl, b5⟩
    replace ha0 := ha0.below2 b5
    replace hB3 := hB3.below2 b5
    replace hw := bw_trans hw b5
    replace hreg := bw_trans hreg b5
    (try go_wp2)
    (try refine hK _ _ ?_)
    (try clear hK K)
    refine step_read (i := 5) (by kernel_rfl) (by kernel_rfl) rfl hreg rfl (fun K hK => ?_)
    apply Exists.intro
    refine ⟨fun x => ?_, ?_⟩
    · go_simp; (try rfl)
    go_simp; refine hK _ ?_; clear hK K
    refine step_read (i := 6) (by kernel_rfl) (by kernel_rfl) rfl hreg rfl (fun K hK => ?_)
    apply Exists.intro
    refine ⟨fun x => ?_, ?_⟩
    · go_simp; (try rfl)
    go_simp; refine hK _ ?_; clear hK K
    refine step_read (i := 7) (by kernel_rfl) (by kernel_rfl) rfl hreg rfl (fun K hK => ?_)
    apply Exists.intro
    refine ⟨fun x => ?_, ?_⟩
    · go_simp; (try rfl)
    go_simp; refine hK _ ?_; clear hK K
    refine step_read (i := 8) (by kernel_rfl) (by kernel_rfl) rfl hreg rfl (fun K hK => ?_)
    apply Exists.intro
    refine ⟨fun x => ?_, ?_⟩
    · go_simp; (try rfl)
    go_simp; refine hK _ ?_; clear hK K
    refine step_read (i := 9) (by kernel_rfl) (by kernel_rfl) rfl hreg rfl (fun K hK => ?_)
    apply Exists.intro
    refine ⟨fun x => ?_, ?_⟩
    · go_simp; (try rfl)
    go_simp; refine hK _ ?_; clear hK K
    refine step_read (i := 10) (by kernel_rfl) (by kernel_rfl) rfl hreg rfl (fun K hK => ?_)
    apply Exists.intro
    refine ⟨fun x => ?_, ?_⟩
    · go_simp; (try rfl)
    go_simp; refine hK _ ?_; clear hK K
    refine step_read (i := 11) (by kernel_rfl) (by kernel_rfl) rfl hreg rfl (fun K hK => ?_)
    apply Exists.intro
    refine ⟨fun x => ?_, ?_⟩
    · go_simp; (try rfl)
    go_simp; refine hK _ ?_; clear hK K
    refine step_end (by kernel_rfl) hreg ?_
    clear hreg
    go_wp2_with fail
    refine Calls.mono (toSupportS_any A0 n0 c0 xs0 _ ha0 hn0) ?_
    rintro _ w6 ⟨g6, rfl, q6, hB6, b6⟩
    replace ha0 := ha0.below2 b6
    replace hB3 := hB3.below2 b6
    replace hw := bw_trans hw b6
    have e0 : w6.cell? ⟨w.heap.size, 0, none⟩ = some (.int .i64 r1.a) := (hw.cell (p := ⟨_, _, none⟩) (by simp)).trans (by simp [go_sem])
    have e1 : w6.cell? ⟨w.heap.size, 1, none⟩ = some (.int .i64 r1.b) := (hw.cell (p := ⟨_, _, none⟩) (by simp)).trans (by simp [go_sem])
    have e2 : w6.cell? ⟨w.heap.size, 2, none⟩ = some (.int .i64 r1.c) := (hw.cell (p := ⟨_, _, none⟩) (by simp)).trans (by simp [go_sem])
    go_wp2_with fail
    refine Calls.mono (toLoadCase_any r1 _) ?_
    rintro _ w7 ⟨rfl, b7⟩
    replace ha0 := ha0.below2 b7
    replace hB3 := hB3.below2 b7
    replace hB6 := hB6.below2 b7
    replace hw := bw_trans hw b7
    unfold R3.v
    clear e0 e1 e2
    go_wp2_with fail
    refine Calls.mono (i_GreatestTension_any g6 0 n0 n0 xs0 r1 _ hB6.reads hn0) ?_
    rintro _ w8 ⟨rfl, b8⟩
    replace ha0 := ha0.below2 b8
    replace hB3 := hB3.below2 b8
    replace hB6 := hB6.below2 b8
    replace hw := bw_trans hw b8
    go_wp2_with fail
    refine Calls.mono (toSupportS_any A0 n0 c0 xs0 _ ha0 hn0) ?_
    rintro _ w9 ⟨g9, rfl, q9, hB9, b9⟩
    replace ha0 := ha0.below2 b9
    replace hB3 := hB3.below2 b9
    replace hB6 := hB6.below2 b9
    replace hw := bw_trans hw b9
    go_wp2_with fail
    refine Calls.mono (eqSupportS_any _ _ n0 n0 n0 n0 xs0 xs0 _ (ASup.of hB6.reads) (ASup.of hB9.reads) hn0 hn0) ?_
    rintro _ w10 ⟨rfl, b10⟩
    replace ha0 := ha0.below2 b10
    replace hB3 := hB3.below2 b10
    replace hB6 := hB6.below2 b10
    replace hB9 := hB9.below2 b10
    replace hw := bw_trans hw b10
    go_wp2_with fail
    go_ret
    exact ⟨rfl, bw_trans (bw_alloc (Below.refl _ _) _) hw⟩
end Go.Proofs.Ytppgfgklnfpgdaa
