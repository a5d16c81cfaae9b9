/- The smallest counterweight with which no tension is less than 0. -/
import Derived.Test.YtppgfgklnfpgdaaUps
import Derived.Test.YtppgfgklnfpgdaaFrac
namespace Go.Proofs.Ytppgfgklnfpgdaa
open Go.RowKit
/-- The greatest of m and the differences b - t 0, .. b - t (k - 1). -/
def lackTo (t : Nat → Int) (b m : Int) : Nat → Int
  | 0 => m
  | k + 1 => max (lackTo t b m k) (b - t k)
theorem lack_max (t : Nat → Int) (b m : Int) (hm : 0 ≤ m) (k : Nat) : lackTo t b m k = max m (lackTo t b 0 k) := by
  induction k with
  | zero => simp only [lackTo]; omega
  | succ k ih => simp only [lackTo, ih]; omega
theorem lack_bd {t : Nat → Int} {b m : Int} {k : Nat} (h : ∀ i, i < k → -2008000 ≤ t i) (hm : 0 ≤ m) (hm2 : m ≤ 4000000) (hb : b ≤ 1000000) : 0 ≤ lackTo t b m k ∧ lackTo t b m k ≤ 4000000 := by
  induction k with
  | zero => exact ⟨hm, hm2⟩
  | succ k ih =>
    have := ih fun i hi => h i (by omega)
    have := h k (by omega)
    simp only [lackTo]
    omega
def lackV (xs : List Sup) (x : R3) : Int := lackTo (tenAt xs x (-x.c)) x.b (lackTo (tenAt xs x x.c) x.b 1 xs.length) xs.length
theorem lack_comm (xs : List Sup) (x : R3) (n : Nat) (hn : xs.length = n) : max 1 (lackTo (tenAt xs x x.c) x.b (lackTo (tenAt xs x (-x.c)) x.b 0 n) n) = lackV xs x := by
  have h0 : ∀ (t : Nat → Int) (b : Int) (k : Nat), 0 ≤ lackTo t b 0 k := fun t b k => by
    induction k with
    | zero => simp [lackTo]
    | succ k ih => simp only [lackTo]; omega
  have a1 := h0 (tenAt xs x x.c) x.b n
  have a2 := h0 (tenAt xs x (-x.c)) x.b n
  unfold lackV
  rw [hn, lack_max (tenAt xs x x.c) x.b _ a2, lack_max (tenAt xs x (-x.c)) x.b (lackTo (tenAt xs x x.c) x.b 1 n) (by rw [lack_max _ _ _ (by omega)]; omega), lack_max (tenAt xs x x.c) x.b 1 (by omega)]
  omega
def leastF (xs : List Sup) (x : R3) : Int × Bool := if okLine xs && isCase x then (if 1000000 < lackV xs x then (0, false) else (lackV xs x, true)) else (0, false)
def least (a b : Int) : Int := if a < b then a else b
theorem least_any (a b : Int) (w : World) : Gv Try.prog 48 #[.int .i64 a, .int .i64 b] w (.int .i64 (least a b)) := by
  unfold Gv least
  by_cases h : a < b
  all_goals
    go_enter Try.func48, Try.ntmps48
    go_wp2
    go_ret
    exact ⟨ret_int (by first | rfl | (rw [if_pos h]; rfl) | (rw [if_neg (by omega)]; rfl)), (by repeat (with_reducible first | exact Below.refl _ _ | refine bw_later ?_ _ | refine bw_alloc ?_ _ | refine bw_drew ?_ | refine bw_set ?_ (Nat.le_refl _) _ | refine bw_set ?_ ?_ _ | exact Nat.le_refl _ | exact later_size _ _ | refine Nat.le_trans ?_ (later_size _ _) | refine Nat.le_trans ?_ (size_alloc_le _ _) | refine Nat.le_trans ?_ (Nat.le_add_right _ _)))⟩
theorem tens_all {P : Program} {f : FuncId} {args : Array Value} {w : World} {u : Int} {xs : List Sup} {x : R3} {n : Nat} {ok : Bool} (h : GI P f args w (tens xs x u n, ok)) (h0 : 0 < n) :
    Calls P f args w fun e w' => (∃ g d, e = .returned (.tuple #[.slice (some ⟨g, 0, none⟩) n d, .bool ok]) ∧ w.heap.size ≤ g ∧ g < w'.heap.size ∧ ∀ i, i < n → w'.cell? ⟨g, i, none⟩ = some (.int .i64 (tenAt xs x u i))) ∧ Below w.heap.size w w' := by
  refine Calls.mono h fun e w' he => ?_
  obtain ⟨A, m, d, rfl, ho, -, hbw⟩ := he
  obtain rfl : m = n := by have := ho.1; rw [tens_len] at this; exact this.symm
  obtain ⟨g, rfl, h1, h2, _, _, hc⟩ := ho.cells h0
  exact ⟨⟨g, d, rfl, h1, h2, fun i hi => hc i _ (tens_at xs x u hi)⟩, hbw⟩
set_option maxHeartbeats 2000000 in
theorem s_LeastCounter_any (g off n c : Nat) (xs : List Sup) (x : R3) (w : World) (hs : SSup w g off n xs) (hn : n ≤ 1048576) : Gv Try.prog 20 #[.slice (some ⟨g, off, none⟩) n c, x.v] w (.tuple #[.int .i64 ((leastF xs x)).1, .bool ((leastF xs x)).2]) := by
  unfold Gv
  cases h0 : okLine xs
  · have hfin := Lib.hid (show leastF xs x = (0, false) by simp [leastF, h0])
    unfold R3.v
    go_enter Try.func20, Try.ntmps20
    go_wp2_with (go_at_call 46; (first | refine (l6Asked_any g off n c xs x _ (by first | exact hs | exact hs.later _ | exact hs.alloc _ | exact (hs.alloc _).later _ | exact (hs.later _).alloc _ | exact ((hs.later _).alloc _).later _ | exact ((hs.alloc _).later _).alloc _ | exact (hs.alloc _).alloc _ | exact ((hs.alloc _).alloc _).later _ | exact (((hs.alloc _).later _).alloc _).later _) hn).onL ?_ | refine (l6Asked_any g off n c xs x _ (by first | exact hs | exact hs.later _ | exact hs.alloc _ | exact (hs.alloc _).later _ | exact (hs.later _).alloc _ | exact ((hs.later _).alloc _).later _ | exact ((hs.alloc _).later _).alloc _ | exact (hs.alloc _).alloc _ | exact ((hs.alloc _).alloc _).later _ | exact (((hs.alloc _).later _).alloc _).later _) hn).on ?_); intro xq)
    go_ret2
    exact ⟨by rw [hfin.out]; rfl, (by repeat (with_reducible first | exact Below.refl _ _ | refine bw_later ?_ _ | refine bw_alloc ?_ _ | refine bw_drew ?_ | refine bw_set ?_ (Nat.le_refl _) _ | refine bw_set ?_ ?_ _ | exact Nat.le_refl _ | exact later_size _ _ | refine Nat.le_trans ?_ (later_size _ _) | refine Nat.le_trans ?_ (size_alloc_le _ _) | refine Nat.le_trans ?_ (Nat.le_add_right _ _)))⟩
  cases h1 : isCase x
  · have hfin := Lib.hid (show leastF xs x = (0, false) by simp [leastF, h0, h1])
    unfold R3.v
    go_enter Try.func20, Try.ntmps20
    go_wp2_with (go_at_call 46; (first | refine (l6Asked_any g off n c xs x _ (by first | exact hs | exact hs.later _ | exact hs.alloc _ | exact (hs.alloc _).later _ | exact (hs.later _).alloc _ | exact ((hs.later _).alloc _).later _ | exact ((hs.alloc _).later _).alloc _ | exact (hs.alloc _).alloc _ | exact ((hs.alloc _).alloc _).later _ | exact (((hs.alloc _).later _).alloc _).later _) hn).onL ?_ | refine (l6Asked_any g off n c xs x _ (by first | exact hs | exact hs.later _ | exact hs.alloc _ | exact (hs.alloc _).later _ | exact (hs.later _).alloc _ | exact ((hs.later _).alloc _).later _ | exact ((hs.alloc _).later _).alloc _ | exact (hs.alloc _).alloc _ | exact ((hs.alloc _).alloc _).later _ | exact (((hs.alloc _).later _).alloc _).later _) hn).on ?_); intro xq)
    go_ret2
    exact ⟨by rw [hfin.out]; rfl, (by repeat (with_reducible first | exact Below.refl _ _ | refine bw_later ?_ _ | refine bw_alloc ?_ _ | refine bw_drew ?_ | refine bw_set ?_ (Nat.le_refl _) _ | refine bw_set ?_ ?_ _ | exact Nat.le_refl _ | exact later_size _ _ | refine Nat.le_trans ?_ (later_size _ _) | refine Nat.le_trans ?_ (size_alloc_le _ _) | refine Nat.le_trans ?_ (Nat.le_add_right _ _)))⟩
  have hL := Lib.hid (line_ok h0)
  have hx := Lib.hid h1
  have h28 := hL.out.len
  rw [hs.2.1] at h28
  have hpos : 0 < n := by omega
  obtain ⟨-, ⟨b1', b2⟩, ⟨x1, x2⟩⟩ := case_bd h1
  have l1 := lack_bd (t := tenAt xs x (-x.c)) (b := x.b) (m := 0) (k := n) (fun i hi => (tenAt_bd hL.out h1 (by omega) (by omega) i (by omega)).1) (by omega) (by omega) b2
  have l2 := lack_bd (t := tenAt xs x x.c) (b := x.b) (m := lackTo (tenAt xs x (-x.c)) x.b 0 n) (k := n) (fun i hi => (tenAt_bd hL.out h1 (by omega) (by omega) i (by omega)).1) (by omega) (by omega) b2
  have hmo := Lib.hid (show most 1 (lackTo (tenAt xs x x.c) x.b (lackTo (tenAt xs x (-x.c)) x.b 0 n) n) = lackV xs x by
    have := lack_comm xs x n hs.2.1
    unfold most
    split <;> omega)
  have hfin := Lib.hid (show leastF xs x = (if 1000000 < lackV xs x then (0, false) else (lackV xs x, true)) by simp [leastF, h0, h1])
  have hge : 1 ≤ lackV xs x := by have := lack_comm xs x n hs.2.1; omega
  have hle4 : lackV xs x ≤ 4000000 := by have := lack_comm xs x n hs.2.1; omega
  unfold R3.v
  go_enter Try.func20, Try.ntmps20
  go_wp2_with (go_at_call 46; (first | refine (l6Asked_any g off n c xs x _ (by first | exact hs | exact hs.later _ | exact hs.alloc _ | exact (hs.alloc _).later _ | exact (hs.later _).alloc _ | exact ((hs.later _).alloc _).later _ | exact ((hs.alloc _).later _).alloc _ | exact (hs.alloc _).alloc _ | exact ((hs.alloc _).alloc _).later _ | exact (((hs.alloc _).later _).alloc _).later _) hn).onL ?_ | refine (l6Asked_any g off n c xs x _ (by first | exact hs | exact hs.later _ | exact hs.alloc _ | exact (hs.alloc _).later _ | exact (hs.later _).alloc _ | exact ((hs.later _).alloc _).later _ | exact ((hs.alloc _).later _).alloc _ | exact (hs.alloc _).alloc _ | exact ((hs.alloc _).alloc _).later _ | exact (((hs.alloc _).later _).alloc _).later _) hn).on ?_); intro xq)
  clear h0 h1
  go_loopw [6, 7] (fun m i wr => ∃ k : Nat, k ≤ 2 ∧ i = .int .i64 (2 * (k : Int) - 1) ∧ m = .int .i64 (-(if k = 0 then 0 else if k = 1 then lackTo (tenAt xs x (-x.c)) x.b 0 n else lackTo (tenAt xs x x.c) x.b (lackTo (tenAt xs x (-x.c)) x.b 0 n) n)) ∧ Below (w.alloc (.cells #[.int .i64 x.a, .int .i64 x.b, .int .i64 x.c] 25)).heap.size (w.alloc (.cells #[.int .i64 x.a, .int .i64 x.b, .int .i64 x.c] 25)) wr) (fun _ i _ => (3 - intOf i).toNat)
  case atStart => exact ⟨0, by omega, rfl, rfl, (by repeat (with_reducible first | exact Below.refl _ _ | refine bw_later ?_ _ | refine bw_alloc ?_ _ | refine bw_drew ?_ | refine bw_set ?_ (Nat.le_refl _) _ | refine bw_set ?_ ?_ _ | exact Nat.le_refl _ | exact later_size _ _ | refine Nat.le_trans ?_ (later_size _ _) | refine Nat.le_trans ?_ (size_alloc_le _ _) | refine Nat.le_trans ?_ (Nat.le_add_right _ _)))⟩
  case round =>
    obtain ⟨k0, hk0, rfl, rfl, hb⟩ := hrel
    obtain ⟨y0, rfl⟩ := exists_later hb
    clear hb
    have h012 : k0 = 0 ∨ k0 = 1 ∨ k0 = 2 := by omega
    rcases h012 with rfl | rfl | rfl
    · simp only [Int.natCast_zero, Int.mul_zero, Int.zero_sub, if_true]
      have m00 : 0 ≤ (0 : Int) := by omega
      have m01 : (0 : Int) ≤ 4000000 := by omega
      go_wp2_with (go_at_call 47; refine Calls.mono (tens_all (s_tens_down g off n c xs x _ (by first | exact (hs.alloc _).later _ | exact ((hs.alloc _).later _).later _) hL.out hx.out) hpos) ?_; rintro _ w1 ⟨⟨g1, d1, rfl, q1, z1, c1⟩, b1⟩; obtain ⟨y1, rfl⟩ := exists_later (bw_trans (a := (w.alloc (.cells #[.int .i64 x.a, .int .i64 x.b, .int .i64 x.c] 25))) (by repeat (with_reducible first | exact Below.refl _ _ | refine bw_later ?_ _ | refine bw_alloc ?_ _ | refine bw_drew ?_ | refine bw_set ?_ (Nat.le_refl _) _ | refine bw_set ?_ ?_ _ | exact Nat.le_refl _ | exact later_size _ _ | refine Nat.le_trans ?_ (later_size _ _) | refine Nat.le_trans ?_ (size_alloc_le _ _) | refine Nat.le_trans ?_ (Nat.le_add_right _ _))) b1); have C1 := Lib.hid c1; clear b1 c1 q1)
      have hbx : w.heap.size < (later (w.alloc (.cells #[.int .i64 x.a, .int .i64 x.b, .int .i64 x.c] 25)) y1).heap.size := lt_later _ y1 _ (by simp)
      go_loopw [6, 10] (fun m i wr => ∃ k : Nat, k ≤ n ∧ i = .int .i64 (k : Int) ∧ m = .int .i64 (-lackTo (tenAt xs x (-x.c)) x.b ((0 : Int)) k) ∧ Below (later (w.alloc (.cells #[.int .i64 x.a, .int .i64 x.b, .int .i64 x.c] 25)) y1).heap.size (later (w.alloc (.cells #[.int .i64 x.a, .int .i64 x.b, .int .i64 x.c] 25)) y1) wr) (fun _ i _ => n - (intOf i).toNat)
      case atStart => exact ⟨0, by omega, rfl, by first | rfl | (simp only [lackTo]; done) | (simp [lackTo]; done), Below.refl _ _⟩
      case round =>
        obtain ⟨k, hk, rfl, rfl, hb⟩ := hrel
        obtain ⟨y, rfl⟩ := exists_later hb
        clear hb
        have hbx2 := lt_later _ y _ hbx
        obtain ⟨q1, q2⟩ := lack_bd (t := tenAt xs x (-x.c)) (b := x.b) (m := (0 : Int)) (k := k) (fun i hi => (tenAt_bd hL.out hx.out (by omega) (by omega) i (by omega)).1) m00 m01 b2
        by_cases hlt : k < n
        · have ck := C1.out k hlt
          obtain ⟨t1, t2⟩ := tenAt_bd (u := (-x.c)) (i := k) hL.out hx.out (by omega) (by omega) (by omega)
          have iw : IntKind.i64.wrap (tenAt xs x (-x.c) k - x.b) = tenAt xs x (-x.c) k - x.b := Go.IntWalk.i64_in _ (by omega)
          go_wp2_with ((with_reducible refine wp_region_later (by kernel_rfl) (by kernel_rfl) ?_); (repeat (go_big_quiet_step ((go_at_call 48; exact (least_any _ _ _).quiet)))); refine wpQuiet_nil ?_; rintro _ ⟨xr, rfl⟩)
          all_goals
            go_roundw
            case rel => exact ⟨k + 1, by omega, by go_num, by show Value.int .i64 (least (-lackTo (tenAt xs x (-x.c)) x.b ((0 : Int)) k) (tenAt xs x (-x.c) k - x.b)) = Value.int .i64 (-(max (lackTo (tenAt xs x (-x.c)) x.b ((0 : Int)) k) (x.b - tenAt xs x (-x.c) k))); congr 1; unfold least; split <;> omega, (by repeat (with_reducible first | exact Below.refl _ _ | refine bw_later ?_ _ | refine bw_alloc ?_ _ | refine bw_drew ?_ | refine bw_set ?_ (Nat.le_refl _) _ | refine bw_set ?_ ?_ _ | exact Nat.le_refl _ | exact later_size _ _ | refine Nat.le_trans ?_ (later_size _ _) | refine Nat.le_trans ?_ (size_alloc_le _ _) | refine Nat.le_trans ?_ (Nat.le_add_right _ _)))⟩
            case measure => simp [intOf]; omega
        · obtain rfl : k = n := by omega
          go_wp2
          go_roundw
          case rel => exact ⟨1, by omega, by first | rfl | go_num, rfl, (by repeat (with_reducible first | exact Below.refl _ _ | refine bw_later ?_ _ | refine bw_alloc ?_ _ | refine bw_drew ?_ | refine bw_set ?_ (Nat.le_refl _) _ | refine bw_set ?_ ?_ _ | exact Nat.le_refl _ | exact later_size _ _ | refine Nat.le_trans ?_ (later_size _ _) | refine Nat.le_trans ?_ (size_alloc_le _ _) | refine Nat.le_trans ?_ (Nat.le_add_right _ _)))⟩
          case measure => simp [intOf]
    · simp only [Nat.one_ne_zero, if_false, if_true]
      rw [show (2 * ((1 : Nat) : Int) - 1) = 1 by omega]
      have m00 : 0 ≤ lackTo (tenAt xs x (-x.c)) x.b 0 n := by omega
      have m01 : lackTo (tenAt xs x (-x.c)) x.b 0 n ≤ 4000000 := by omega
      go_wp2_with (go_at_call 47; refine Calls.mono (tens_all (s_tens_up g off n c xs x _ (by first | exact (hs.alloc _).later _ | exact ((hs.alloc _).later _).later _) hL.out hx.out) hpos) ?_; rintro _ w1 ⟨⟨g1, d1, rfl, q1, z1, c1⟩, b1⟩; obtain ⟨y1, rfl⟩ := exists_later (bw_trans (a := (w.alloc (.cells #[.int .i64 x.a, .int .i64 x.b, .int .i64 x.c] 25))) (by repeat (with_reducible first | exact Below.refl _ _ | refine bw_later ?_ _ | refine bw_alloc ?_ _ | refine bw_drew ?_ | refine bw_set ?_ (Nat.le_refl _) _ | refine bw_set ?_ ?_ _ | exact Nat.le_refl _ | exact later_size _ _ | refine Nat.le_trans ?_ (later_size _ _) | refine Nat.le_trans ?_ (size_alloc_le _ _) | refine Nat.le_trans ?_ (Nat.le_add_right _ _))) b1); have C1 := Lib.hid c1; clear b1 c1 q1)
      have hbx : w.heap.size < (later (w.alloc (.cells #[.int .i64 x.a, .int .i64 x.b, .int .i64 x.c] 25)) y1).heap.size := lt_later _ y1 _ (by simp)
      go_loopw [6, 10] (fun m i wr => ∃ k : Nat, k ≤ n ∧ i = .int .i64 (k : Int) ∧ m = .int .i64 (-lackTo (tenAt xs x x.c) x.b (lackTo (tenAt xs x (-x.c)) x.b 0 n) k) ∧ Below (later (w.alloc (.cells #[.int .i64 x.a, .int .i64 x.b, .int .i64 x.c] 25)) y1).heap.size (later (w.alloc (.cells #[.int .i64 x.a, .int .i64 x.b, .int .i64 x.c] 25)) y1) wr) (fun _ i _ => n - (intOf i).toNat)
      case atStart => exact ⟨0, by omega, rfl, by first | rfl | (simp only [lackTo]; done) | (simp [lackTo]; done), Below.refl _ _⟩
      case round =>
        obtain ⟨k, hk, rfl, rfl, hb⟩ := hrel
        obtain ⟨y, rfl⟩ := exists_later hb
        clear hb
        have hbx2 := lt_later _ y _ hbx
        obtain ⟨q1, q2⟩ := lack_bd (t := tenAt xs x x.c) (b := x.b) (m := lackTo (tenAt xs x (-x.c)) x.b 0 n) (k := k) (fun i hi => (tenAt_bd hL.out hx.out (by omega) (by omega) i (by omega)).1) m00 m01 b2
        by_cases hlt : k < n
        · have ck := C1.out k hlt
          obtain ⟨t1, t2⟩ := tenAt_bd (u := x.c) (i := k) hL.out hx.out (by omega) (by omega) (by omega)
          have iw : IntKind.i64.wrap (tenAt xs x x.c k - x.b) = tenAt xs x x.c k - x.b := Go.IntWalk.i64_in _ (by omega)
          go_wp2_with ((with_reducible refine wp_region_later (by kernel_rfl) (by kernel_rfl) ?_); (repeat (go_big_quiet_step ((go_at_call 48; exact (least_any _ _ _).quiet)))); refine wpQuiet_nil ?_; rintro _ ⟨xr, rfl⟩)
          all_goals
            go_roundw
            case rel => exact ⟨k + 1, by omega, by go_num, by show Value.int .i64 (least (-lackTo (tenAt xs x x.c) x.b (lackTo (tenAt xs x (-x.c)) x.b 0 n) k) (tenAt xs x x.c k - x.b)) = Value.int .i64 (-(max (lackTo (tenAt xs x x.c) x.b (lackTo (tenAt xs x (-x.c)) x.b 0 n) k) (x.b - tenAt xs x x.c k))); congr 1; unfold least; split <;> omega, (by repeat (with_reducible first | exact Below.refl _ _ | refine bw_later ?_ _ | refine bw_alloc ?_ _ | refine bw_drew ?_ | refine bw_set ?_ (Nat.le_refl _) _ | refine bw_set ?_ ?_ _ | exact Nat.le_refl _ | exact later_size _ _ | refine Nat.le_trans ?_ (later_size _ _) | refine Nat.le_trans ?_ (size_alloc_le _ _) | refine Nat.le_trans ?_ (Nat.le_add_right _ _)))⟩
            case measure => simp [intOf]; omega
        · obtain rfl : k = n := by omega
          go_wp2
          go_roundw
          case rel => exact ⟨2, by omega, by first | rfl | go_num, rfl, (by repeat (with_reducible first | exact Below.refl _ _ | refine bw_later ?_ _ | refine bw_alloc ?_ _ | refine bw_drew ?_ | refine bw_set ?_ (Nat.le_refl _) _ | refine bw_set ?_ ?_ _ | exact Nat.le_refl _ | exact later_size _ _ | refine Nat.le_trans ?_ (later_size _ _) | refine Nat.le_trans ?_ (size_alloc_le _ _) | refine Nat.le_trans ?_ (Nat.le_add_right _ _)))⟩
          case measure => simp [intOf]
    · simp only [show ¬ (2 : Nat) = 0 by omega, show ¬ (2 : Nat) = 1 by omega, if_false]
      rw [show (2 * ((2 : Nat) : Int) - 1) = 3 by omega]
      by_cases hbig : 1000000 < lackV xs x
      · have hm2 : most 1 (lackTo (tenAt xs x x.c) x.b (lackTo (tenAt xs x (-x.c)) x.b 0 n) n) = lackV xs x := hmo.out
        go_wp2_with (go_at_call 49; (first | refine (most_any _ _ _).onL ?_ | refine (most_any _ _ _).on ?_); intro xq)
        go_ret2
        exact ⟨by rw [hfin.out, if_pos hbig]; rfl, (by repeat (with_reducible first | exact Below.refl _ _ | refine bw_later ?_ _ | refine bw_alloc ?_ _ | refine bw_drew ?_ | refine bw_set ?_ (Nat.le_refl _) _ | refine bw_set ?_ ?_ _ | exact Nat.le_refl _ | exact later_size _ _ | refine Nat.le_trans ?_ (later_size _ _) | refine Nat.le_trans ?_ (size_alloc_le _ _) | refine Nat.le_trans ?_ (Nat.le_add_right _ _)))⟩
      · have hm2 : most 1 (lackTo (tenAt xs x x.c) x.b (lackTo (tenAt xs x (-x.c)) x.b 0 n) n) = lackV xs x := hmo.out
        go_wp2_with (go_at_call 49; (first | refine (most_any _ _ _).onL ?_ | refine (most_any _ _ _).on ?_); intro xq)
        go_ret2
        exact ⟨by rw [hfin.out, if_neg (by omega)]; rfl, (by repeat (with_reducible first | exact Below.refl _ _ | refine bw_later ?_ _ | refine bw_alloc ?_ _ | refine bw_drew ?_ | refine bw_set ?_ (Nat.le_refl _) _ | refine bw_set ?_ ?_ _ | exact Nat.le_refl _ | exact later_size _ _ | refine Nat.le_trans ?_ (later_size _ _) | refine Nat.le_trans ?_ (size_alloc_le _ _) | refine Nat.le_trans ?_ (Nat.le_add_right _ _)))⟩
set_option maxHeartbeats 2000000 in
theorem i_LeastCounter_any (g off n c : Nat) (xs : List Sup) (x : R3) (w : World) (hs : SSup w g off n xs) (hn : n ≤ 1048576) : Gv Try.prog 21 #[.slice (some ⟨g, off, none⟩) n c, x.v] w (.tuple #[.int .i64 ((leastF xs x)).1, .bool ((leastF xs x)).2]) := by
  unfold Gv
  cases h0 : okLine xs
  · have hfin := Lib.hid (show leastF xs x = (0, false) by simp [leastF, h0])
    unfold R3.v
    go_enter Try.func21, Try.ntmps21
    go_wp2_with (first | (go_at_call 50; (first | refine (impl_IsLine_any g off n c xs _ (by first | exact hs | exact hs.later _ | exact hs.alloc _ | exact (hs.alloc _).later _ | exact (hs.later _).alloc _ | exact ((hs.later _).alloc _).later _ | exact ((hs.alloc _).later _).alloc _ | exact (hs.alloc _).alloc _ | exact ((hs.alloc _).alloc _).later _ | exact (((hs.alloc _).later _).alloc _).later _) hn).onL ?_ | refine (impl_IsLine_any g off n c xs _ (by first | exact hs | exact hs.later _ | exact hs.alloc _ | exact (hs.alloc _).later _ | exact (hs.later _).alloc _ | exact ((hs.later _).alloc _).later _ | exact ((hs.alloc _).later _).alloc _ | exact (hs.alloc _).alloc _ | exact ((hs.alloc _).alloc _).later _ | exact (((hs.alloc _).later _).alloc _).later _) hn).on ?_); intro xq) | (go_at_call 14; (first | refine (impl_IsLoadCase_any x _).onL ?_ | refine (impl_IsLoadCase_any x _).on ?_); intro xq))
    go_ret2
    exact ⟨by rw [hfin.out]; rfl, (by repeat (with_reducible first | exact Below.refl _ _ | refine bw_later ?_ _ | refine bw_alloc ?_ _ | refine bw_drew ?_ | refine bw_set ?_ (Nat.le_refl _) _ | refine bw_set ?_ ?_ _ | exact Nat.le_refl _ | exact later_size _ _ | refine Nat.le_trans ?_ (later_size _ _) | refine Nat.le_trans ?_ (size_alloc_le _ _) | refine Nat.le_trans ?_ (Nat.le_add_right _ _)))⟩
  cases h1 : isCase x
  · have hfin := Lib.hid (show leastF xs x = (0, false) by simp [leastF, h0, h1])
    unfold R3.v
    go_enter Try.func21, Try.ntmps21
    go_wp2_with (first | (go_at_call 50; (first | refine (impl_IsLine_any g off n c xs _ (by first | exact hs | exact hs.later _ | exact hs.alloc _ | exact (hs.alloc _).later _ | exact (hs.later _).alloc _ | exact ((hs.later _).alloc _).later _ | exact ((hs.alloc _).later _).alloc _ | exact (hs.alloc _).alloc _ | exact ((hs.alloc _).alloc _).later _ | exact (((hs.alloc _).later _).alloc _).later _) hn).onL ?_ | refine (impl_IsLine_any g off n c xs _ (by first | exact hs | exact hs.later _ | exact hs.alloc _ | exact (hs.alloc _).later _ | exact (hs.later _).alloc _ | exact ((hs.later _).alloc _).later _ | exact ((hs.alloc _).later _).alloc _ | exact (hs.alloc _).alloc _ | exact ((hs.alloc _).alloc _).later _ | exact (((hs.alloc _).later _).alloc _).later _) hn).on ?_); intro xq) | (go_at_call 14; (first | refine (impl_IsLoadCase_any x _).onL ?_ | refine (impl_IsLoadCase_any x _).on ?_); intro xq))
    go_ret2
    exact ⟨by rw [hfin.out]; rfl, (by repeat (with_reducible first | exact Below.refl _ _ | refine bw_later ?_ _ | refine bw_alloc ?_ _ | refine bw_drew ?_ | refine bw_set ?_ (Nat.le_refl _) _ | refine bw_set ?_ ?_ _ | exact Nat.le_refl _ | exact later_size _ _ | refine Nat.le_trans ?_ (later_size _ _) | refine Nat.le_trans ?_ (size_alloc_le _ _) | refine Nat.le_trans ?_ (Nat.le_add_right _ _)))⟩
  have hL := Lib.hid (line_ok h0)
  have hx := Lib.hid h1
  have h28 := hL.out.len
  rw [hs.2.1] at h28
  have hpos : 0 < n := by omega
  obtain ⟨-, ⟨b1', b2⟩, ⟨x1, x2⟩⟩ := case_bd h1
  have l1 := lack_bd (t := tenAt xs x x.c) (b := x.b) (m := 1) (k := n) (fun i hi => (tenAt_bd hL.out h1 (by omega) (by omega) i (by omega)).1) (by omega) (by omega) b2
  have l2 := lack_bd (t := tenAt xs x (-x.c)) (b := x.b) (m := lackTo (tenAt xs x x.c) x.b 1 n) (k := n) (fun i hi => (tenAt_bd hL.out h1 (by omega) (by omega) i (by omega)).1) (by omega) (by omega) b2
  have hV := Lib.hid (show lackTo (tenAt xs x (-x.c)) x.b (lackTo (tenAt xs x x.c) x.b 1 n) n = lackV xs x by rw [lackV, hs.2.1])
  have hfin := Lib.hid (show leastF xs x = (if 1000000 < lackTo (tenAt xs x (-x.c)) x.b (lackTo (tenAt xs x x.c) x.b 1 n) n then (0, false) else (lackTo (tenAt xs x (-x.c)) x.b (lackTo (tenAt xs x x.c) x.b 1 n) n, true)) by rw [hV.out]; simp [leastF, h0, h1])
  unfold R3.v
  go_enter Try.func21, Try.ntmps21
  go_wp2_with (first | (go_at_call 50; (first | refine (impl_IsLine_any g off n c xs _ (by first | exact hs | exact hs.later _ | exact hs.alloc _ | exact (hs.alloc _).later _ | exact (hs.later _).alloc _ | exact ((hs.later _).alloc _).later _ | exact ((hs.alloc _).later _).alloc _ | exact (hs.alloc _).alloc _ | exact ((hs.alloc _).alloc _).later _ | exact (((hs.alloc _).later _).alloc _).later _) hn).onL ?_ | refine (impl_IsLine_any g off n c xs _ (by first | exact hs | exact hs.later _ | exact hs.alloc _ | exact (hs.alloc _).later _ | exact (hs.later _).alloc _ | exact ((hs.later _).alloc _).later _ | exact ((hs.alloc _).later _).alloc _ | exact (hs.alloc _).alloc _ | exact ((hs.alloc _).alloc _).later _ | exact (((hs.alloc _).later _).alloc _).later _) hn).on ?_); intro xq) | (go_at_call 14; (first | refine (impl_IsLoadCase_any x _).onL ?_ | refine (impl_IsLoadCase_any x _).on ?_); intro xq))
  clear h0 h1
  have hbx1 : w.heap.size < (later (w.alloc (.cells #[.int .i64 x.a, .int .i64 x.b, .int .i64 x.c] 25)) xq).heap.size := lt_later _ xq _ (by simp)
  have hbx0 : w.heap.size < ((later (w.alloc (.cells #[.int .i64 x.a, .int .i64 x.b, .int .i64 x.c] 25)) xq).alloc (.cells #[.int .i64 x.c, .int .i64 (-x.c)] 3)).heap.size := by simp; omega
  have hsl0 : (later (w.alloc (.cells #[.int .i64 x.a, .int .i64 x.b, .int .i64 x.c] 25)) xq).heap.size < ((later (w.alloc (.cells #[.int .i64 x.a, .int .i64 x.b, .int .i64 x.c] 25)) xq).alloc (.cells #[.int .i64 x.c, .int .i64 (-x.c)] 3)).heap.size := by simp
  go_loopw [6, 28] (fun m i wr => ∃ k : Nat, k ≤ 2 ∧ i = .int .i64 (k : Int) ∧ m = .int .i64 (if k = 0 then 1 else if k = 1 then lackTo (tenAt xs x x.c) x.b 1 n else lackTo (tenAt xs x (-x.c)) x.b (lackTo (tenAt xs x x.c) x.b 1 n) n) ∧ Below ((later (w.alloc (.cells #[.int .i64 x.a, .int .i64 x.b, .int .i64 x.c] 25)) xq).alloc (.cells #[.int .i64 x.c, .int .i64 (-x.c)] 3)).heap.size ((later (w.alloc (.cells #[.int .i64 x.a, .int .i64 x.b, .int .i64 x.c] 25)) xq).alloc (.cells #[.int .i64 x.c, .int .i64 (-x.c)] 3)) wr) (fun _ i _ => (2 - intOf i).toNat)
  case atStart => exact ⟨0, by omega, rfl, rfl, Below.refl _ _⟩
  case round =>
    obtain ⟨k0, hk0, rfl, rfl, hb⟩ := hrel
    obtain ⟨y0, rfl⟩ := exists_later hb
    clear hb
    have h012 : k0 = 0 ∨ k0 = 1 ∨ k0 = 2 := by omega
    rcases h012 with rfl | rfl | rfl
    · simp only [if_true]
      have m00 : 0 ≤ (1 : Int) := by omega
      have m01 : (1 : Int) ≤ 4000000 := by omega
      go_wp2_with (go_at_call 51; refine Calls.mono (tens_all (i_tens_any g off n c xs x x.c _ ((((hs.alloc _).later _).alloc _).later _) hL.out hx.out (by omega) (by omega)) hpos) ?_; rintro _ w1 ⟨⟨g1, d1, rfl, q1, z1, c1⟩, b1⟩; obtain ⟨y1, rfl⟩ := exists_later (bw_trans (a := ((later (w.alloc (.cells #[.int .i64 x.a, .int .i64 x.b, .int .i64 x.c] 25)) xq).alloc (.cells #[.int .i64 x.c, .int .i64 (-x.c)] 3))) (by repeat (with_reducible first | exact Below.refl _ _ | refine bw_later ?_ _ | refine bw_alloc ?_ _ | refine bw_drew ?_ | refine bw_set ?_ (Nat.le_refl _) _ | refine bw_set ?_ ?_ _ | exact Nat.le_refl _ | exact later_size _ _ | refine Nat.le_trans ?_ (later_size _ _) | refine Nat.le_trans ?_ (size_alloc_le _ _) | refine Nat.le_trans ?_ (Nat.le_add_right _ _))) b1); have C1 := Lib.hid c1; clear b1 c1 q1)
      have hbx : w.heap.size < (later ((later (w.alloc (.cells #[.int .i64 x.a, .int .i64 x.b, .int .i64 x.c] 25)) xq).alloc (.cells #[.int .i64 x.c, .int .i64 (-x.c)] 3)) y1).heap.size := lt_later _ y1 _ hbx0
      have hsl : (later (w.alloc (.cells #[.int .i64 x.a, .int .i64 x.b, .int .i64 x.c] 25)) xq).heap.size < (later ((later (w.alloc (.cells #[.int .i64 x.a, .int .i64 x.b, .int .i64 x.c] 25)) xq).alloc (.cells #[.int .i64 x.c, .int .i64 (-x.c)] 3)) y1).heap.size := lt_later _ y1 _ hsl0
      go_loopw [6, 41] (fun m i wr => ∃ k : Nat, k ≤ n ∧ i = .int .i64 (k : Int) ∧ m = .int .i64 (lackTo (tenAt xs x x.c) x.b ((1 : Int)) k) ∧ Below (later ((later (w.alloc (.cells #[.int .i64 x.a, .int .i64 x.b, .int .i64 x.c] 25)) xq).alloc (.cells #[.int .i64 x.c, .int .i64 (-x.c)] 3)) y1).heap.size (later ((later (w.alloc (.cells #[.int .i64 x.a, .int .i64 x.b, .int .i64 x.c] 25)) xq).alloc (.cells #[.int .i64 x.c, .int .i64 (-x.c)] 3)) y1) wr) (fun _ i _ => n - (intOf i).toNat)
      case atStart => exact ⟨0, by omega, rfl, by first | rfl | (simp only [lackTo]; done) | (simp [lackTo]; done), Below.refl _ _⟩
      case round =>
        obtain ⟨k, hk, rfl, rfl, hb⟩ := hrel
        obtain ⟨y, rfl⟩ := exists_later hb
        clear hb
        have hbx2 := lt_later _ y _ hbx
        obtain ⟨q1, q2⟩ := lack_bd (t := tenAt xs x x.c) (b := x.b) (m := (1 : Int)) (k := k) (fun i hi => (tenAt_bd hL.out hx.out (by omega) (by omega) i (by omega)).1) m00 m01 b2
        by_cases hlt : k < n
        · have ck := C1.out k hlt
          obtain ⟨t1, t2⟩ := tenAt_bd (u := x.c) (i := k) hL.out hx.out (by omega) (by omega) (by omega)
          have iw : IntKind.i64.wrap (tenAt xs x x.c k - x.b) = tenAt xs x x.c k - x.b := Go.IntWalk.i64_in _ (by omega)
          go_wp2
          all_goals
            go_roundw
            case rel => exact ⟨k + 1, by omega, by go_num, by show _ = Value.int .i64 (max (lackTo (tenAt xs x x.c) x.b ((1 : Int)) k) (x.b - tenAt xs x x.c k)); first | (congr 1; omega) | rfl, (by repeat (with_reducible first | exact Below.refl _ _ | refine bw_later ?_ _ | refine bw_alloc ?_ _ | refine bw_drew ?_ | refine bw_set ?_ (Nat.le_refl _) _ | refine bw_set ?_ ?_ _ | exact Nat.le_refl _ | exact later_size _ _ | refine Nat.le_trans ?_ (later_size _ _) | refine Nat.le_trans ?_ (size_alloc_le _ _) | refine Nat.le_trans ?_ (Nat.le_add_right _ _)))⟩
            case measure => simp [intOf]; omega
        · obtain rfl : k = n := by omega
          go_wp2
          go_roundw
          case rel => exact ⟨1, by omega, by first | rfl | go_num, rfl, (by repeat (with_reducible first | exact Below.refl _ _ | refine bw_later ?_ _ | refine bw_alloc ?_ _ | refine bw_drew ?_ | refine bw_set ?_ (Nat.le_refl _) _ | refine bw_set ?_ ?_ _ | exact Nat.le_refl _ | exact later_size _ _ | refine Nat.le_trans ?_ (later_size _ _) | refine Nat.le_trans ?_ (size_alloc_le _ _) | refine Nat.le_trans ?_ (Nat.le_add_right _ _)))⟩
          case measure => simp [intOf]
    · simp only [Nat.one_ne_zero, if_false, if_true]
      have m00 : 0 ≤ lackTo (tenAt xs x x.c) x.b 1 n := by omega
      have m01 : lackTo (tenAt xs x x.c) x.b 1 n ≤ 4000000 := by omega
      go_wp2_with (go_at_call 51; refine Calls.mono (tens_all (i_tens_any g off n c xs x (-x.c) _ ((((hs.alloc _).later _).alloc _).later _) hL.out hx.out (by omega) (by omega)) hpos) ?_; rintro _ w1 ⟨⟨g1, d1, rfl, q1, z1, c1⟩, b1⟩; obtain ⟨y1, rfl⟩ := exists_later (bw_trans (a := ((later (w.alloc (.cells #[.int .i64 x.a, .int .i64 x.b, .int .i64 x.c] 25)) xq).alloc (.cells #[.int .i64 x.c, .int .i64 (-x.c)] 3))) (by repeat (with_reducible first | exact Below.refl _ _ | refine bw_later ?_ _ | refine bw_alloc ?_ _ | refine bw_drew ?_ | refine bw_set ?_ (Nat.le_refl _) _ | refine bw_set ?_ ?_ _ | exact Nat.le_refl _ | exact later_size _ _ | refine Nat.le_trans ?_ (later_size _ _) | refine Nat.le_trans ?_ (size_alloc_le _ _) | refine Nat.le_trans ?_ (Nat.le_add_right _ _))) b1); have C1 := Lib.hid c1; clear b1 c1 q1)
      have hbx : w.heap.size < (later ((later (w.alloc (.cells #[.int .i64 x.a, .int .i64 x.b, .int .i64 x.c] 25)) xq).alloc (.cells #[.int .i64 x.c, .int .i64 (-x.c)] 3)) y1).heap.size := lt_later _ y1 _ hbx0
      have hsl : (later (w.alloc (.cells #[.int .i64 x.a, .int .i64 x.b, .int .i64 x.c] 25)) xq).heap.size < (later ((later (w.alloc (.cells #[.int .i64 x.a, .int .i64 x.b, .int .i64 x.c] 25)) xq).alloc (.cells #[.int .i64 x.c, .int .i64 (-x.c)] 3)) y1).heap.size := lt_later _ y1 _ hsl0
      go_loopw [6, 41] (fun m i wr => ∃ k : Nat, k ≤ n ∧ i = .int .i64 (k : Int) ∧ m = .int .i64 (lackTo (tenAt xs x (-x.c)) x.b (lackTo (tenAt xs x x.c) x.b 1 n) k) ∧ Below (later ((later (w.alloc (.cells #[.int .i64 x.a, .int .i64 x.b, .int .i64 x.c] 25)) xq).alloc (.cells #[.int .i64 x.c, .int .i64 (-x.c)] 3)) y1).heap.size (later ((later (w.alloc (.cells #[.int .i64 x.a, .int .i64 x.b, .int .i64 x.c] 25)) xq).alloc (.cells #[.int .i64 x.c, .int .i64 (-x.c)] 3)) y1) wr) (fun _ i _ => n - (intOf i).toNat)
      case atStart => exact ⟨0, by omega, rfl, by first | rfl | (simp only [lackTo]; done) | (simp [lackTo]; done), Below.refl _ _⟩
      case round =>
        obtain ⟨k, hk, rfl, rfl, hb⟩ := hrel
        obtain ⟨y, rfl⟩ := exists_later hb
        clear hb
        have hbx2 := lt_later _ y _ hbx
        obtain ⟨q1, q2⟩ := lack_bd (t := tenAt xs x (-x.c)) (b := x.b) (m := lackTo (tenAt xs x x.c) x.b 1 n) (k := k) (fun i hi => (tenAt_bd hL.out hx.out (by omega) (by omega) i (by omega)).1) m00 m01 b2
        by_cases hlt : k < n
        · have ck := C1.out k hlt
          obtain ⟨t1, t2⟩ := tenAt_bd (u := (-x.c)) (i := k) hL.out hx.out (by omega) (by omega) (by omega)
          have iw : IntKind.i64.wrap (tenAt xs x (-x.c) k - x.b) = tenAt xs x (-x.c) k - x.b := Go.IntWalk.i64_in _ (by omega)
          go_wp2
          all_goals
            go_roundw
            case rel => exact ⟨k + 1, by omega, by go_num, by show _ = Value.int .i64 (max (lackTo (tenAt xs x (-x.c)) x.b (lackTo (tenAt xs x x.c) x.b 1 n) k) (x.b - tenAt xs x (-x.c) k)); first | (congr 1; omega) | rfl, (by repeat (with_reducible first | exact Below.refl _ _ | refine bw_later ?_ _ | refine bw_alloc ?_ _ | refine bw_drew ?_ | refine bw_set ?_ (Nat.le_refl _) _ | refine bw_set ?_ ?_ _ | exact Nat.le_refl _ | exact later_size _ _ | refine Nat.le_trans ?_ (later_size _ _) | refine Nat.le_trans ?_ (size_alloc_le _ _) | refine Nat.le_trans ?_ (Nat.le_add_right _ _)))⟩
            case measure => simp [intOf]; omega
        · obtain rfl : k = n := by omega
          go_wp2
          go_roundw
          case rel => exact ⟨2, by omega, by first | rfl | go_num, rfl, (by repeat (with_reducible first | exact Below.refl _ _ | refine bw_later ?_ _ | refine bw_alloc ?_ _ | refine bw_drew ?_ | refine bw_set ?_ (Nat.le_refl _) _ | refine bw_set ?_ ?_ _ | exact Nat.le_refl _ | exact later_size _ _ | refine Nat.le_trans ?_ (later_size _ _) | refine Nat.le_trans ?_ (size_alloc_le _ _) | refine Nat.le_trans ?_ (Nat.le_add_right _ _)))⟩
          case measure => simp [intOf]
    · simp only [show ¬ (2 : Nat) = 0 by omega, show ¬ (2 : Nat) = 1 by omega, if_false]
      by_cases hbig : 1000000 < lackTo (tenAt xs x (-x.c)) x.b (lackTo (tenAt xs x x.c) x.b 1 n) n
      · go_wp2
        go_ret2
        exact ⟨by rw [hfin.out, if_pos hbig]; rfl, (by repeat (with_reducible first | exact Below.refl _ _ | refine bw_later ?_ _ | refine bw_alloc ?_ _ | refine bw_drew ?_ | refine bw_set ?_ (Nat.le_refl _) _ | refine bw_set ?_ ?_ _ | exact Nat.le_refl _ | exact later_size _ _ | refine Nat.le_trans ?_ (later_size _ _) | refine Nat.le_trans ?_ (size_alloc_le _ _) | refine Nat.le_trans ?_ (Nat.le_add_right _ _)))⟩
      · go_wp2
        go_ret2
        exact ⟨by rw [hfin.out, if_neg (by omega)]; rfl, (by repeat (with_reducible first | exact Below.refl _ _ | refine bw_later ?_ _ | refine bw_alloc ?_ _ | refine bw_drew ?_ | refine bw_set ?_ (Nat.le_refl _) _ | refine bw_set ?_ ?_ _ | exact Nat.le_refl _ | exact later_size _ _ | refine Nat.le_trans ?_ (later_size _ _) | refine Nat.le_trans ?_ (size_alloc_le _ _) | refine Nat.le_trans ?_ (Nat.le_add_right _ _)))⟩
theorem law_LeastCounter (A0 : Option Addr) (n0 c0 : Nat) (xs0 : List Sup) (r1 : R3) (w : World) (rd0 : ASup w A0 n0 xs0 ∧ n0 ≤ 9223372036854775807) : Gv Try.prog 5 #[.slice A0 n0 c0, r1.v] w (.bool true) := by
  obtain ⟨ha0, hm0⟩ := rd0
  replace ha0 := ha0.below2 (w' := (w.alloc (.cells #[.int .i64 r1.a, .int .i64 r1.b, .int .i64 r1.c] 23))) (bw_alloc (Below.refl _ _) _)
  unfold Gv
  unfold R3.v
  by_cases k0 : 1048576 < n0
  · have z0 : szF n0 ((1048576 : Int)) = -1 := by unfold szF; rw [if_pos (by omega)]
    go_enter Try.func5, Try.ntmps5
    go_wp2_with fail
    refine Calls.mono (szSupport_any A0 n0 c0 ((1048576 : Int)) hm0 (by omega) (by omega) _) ?_
    rintro _ w1 ⟨rfl, b1⟩
    have hw := b1
    rw [z0]
    clear z0
    go_wp2_with fail
    go_ret
    exact ⟨rfl, bw_trans (bw_alloc (Below.refl _ _) _) hw⟩
  · have hn0 : n0 ≤ 1048576 := by omega
    have z0 : szF n0 ((1048576 : Int)) = (1048576 : Int) - (n0 : Int) := by unfold szF; rw [if_neg (by omega)]
    go_enter Try.func5, Try.ntmps5
    go_wp2_with fail
    refine Calls.mono (szSupport_any A0 n0 c0 ((1048576 : Int)) hm0 (by omega) (by omega) _) ?_
    rintro _ w1 ⟨rfl, b1⟩
    replace ha0 := ha0.below2 b1
    have hw := b1
    rw [z0]
    clear z0
    go_wp2_with fail
    (refine wp_region_C (Below (w1).heap.size (w1)) (by kernel_rfl) ?_)
    generalize hgd2 : w1.drew = w2
    have b2 : Below w1.heap.size w1 w2 := by rw [← hgd2]; exact (Below.refl _ _).drew
    clear hgd2
    have f1_0 : w1.cell? ⟨w.heap.size, 0, none⟩ = some (.int .i64 r1.a) := (hw.cell (p := ⟨_, _, none⟩) (by simp)).trans (by simp [go_sem])
    have f1_1 : w1.cell? ⟨w.heap.size, 1, none⟩ = some (.int .i64 r1.b) := (hw.cell (p := ⟨_, _, none⟩) (by simp)).trans (by simp [go_sem])
    have f1_2 : w1.cell? ⟨w.heap.size, 2, none⟩ = some (.int .i64 r1.c) := (hw.cell (p := ⟨_, _, none⟩) (by simp)).trans (by simp [go_sem])
    have g1_ : w.heap.size < w1.heap.size := by have := hw.size; simp at this; omega
    have hreg := b2
    refine step_read (i := 0) (by kernel_rfl) (by kernel_rfl) rfl hreg rfl (fun K hK => ?_)
    apply Exists.intro
    refine ⟨fun x => ?_, ?_⟩
    · go_simp; (try rfl)
    go_simp; refine hK _ ?_; clear hK K
    refine step_read (i := 2) (by kernel_rfl) (by kernel_rfl) rfl hreg rfl (fun K hK => ?_)
    apply Exists.intro
    refine ⟨fun x => ?_, ?_⟩
    · go_simp; (try rfl)
    go_simp; refine hK _ ?_; clear hK K
    clear f1_0 f1_1 f1_2 g1_
    replace ha0 := ha0.below2 b2
    replace hw := bw_trans hw b2
    refine step_one (i := 1) (by kernel_rfl) rfl hreg (fun K hK => ?_)
    go_wp2_with fail
    refine Calls.mono (toSupportS_any A0 n0 c0 xs0 _ ha0 hn0) ?_
    rintro _ w3 ⟨g3, rfl, q3, hB3, b3⟩
    replace ha0 := ha0.below2 b3
    replace hw := bw_trans hw b3
    replace hreg := bw_trans hreg b3
    (try go_wp2)
    (try refine hK _ _ ?_)
    (try clear hK K)
    refine step_one (i := 3) (by kernel_rfl) rfl hreg (fun K hK => ?_)
    go_wp2_with fail
    refine Calls.mono (toLoadCase_any r1 _) ?_
    rintro _ w4 ⟨rfl, b4⟩
    replace ha0 := ha0.below2 b4
    replace hB3 := hB3.below2 b4
    replace hw := bw_trans hw b4
    (try unfold R3.v)
    replace hreg := bw_trans hreg b4
    (try go_wp2)
    (try refine hK _ _ ?_)
    (try clear hK K)
    refine step_one (i := 4) (by kernel_rfl) rfl hreg (fun K hK => ?_)
    go_wp2_with fail
    refine Calls.mono (s_LeastCounter_any g3 0 n0 n0 xs0 r1 _ hB3.reads hn0) ?_
    rintro _ w5 ⟨rfl, b5⟩
    replace ha0 := ha0.below2 b5
    replace hB3 := hB3.below2 b5
    replace hw := bw_trans hw b5
    replace hreg := bw_trans hreg b5
    (try go_wp2)
    (try refine hK _ _ ?_)
    (try clear hK K)
    refine step_read (i := 5) (by kernel_rfl) (by kernel_rfl) rfl hreg rfl (fun K hK => ?_)
    apply Exists.intro
    refine ⟨fun x => ?_, ?_⟩
    · go_simp; (try rfl)
    go_simp; refine hK _ ?_; clear hK K
    refine step_read (i := 6) (by kernel_rfl) (by kernel_rfl) rfl hreg rfl (fun K hK => ?_)
    apply Exists.intro
    refine ⟨fun x => ?_, ?_⟩
    · go_simp; (try rfl)
    go_simp; refine hK _ ?_; clear hK K
    refine step_read (i := 7) (by kernel_rfl) (by kernel_rfl) rfl hreg rfl (fun K hK => ?_)
    apply Exists.intro
    refine ⟨fun x => ?_, ?_⟩
    · go_simp; (try rfl)
    go_simp; refine hK _ ?_; clear hK K
    refine step_read (i := 8) (by kernel_rfl) (by kernel_rfl) rfl hreg rfl (fun K hK => ?_)
    apply Exists.intro
    refine ⟨fun x => ?_, ?_⟩
    · go_simp; (try rfl)
    go_simp; refine hK _ ?_; clear hK K
    refine step_read (i := 9) (by kernel_rfl) (by kernel_rfl) rfl hreg rfl (fun K hK => ?_)
    apply Exists.intro
    refine ⟨fun x => ?_, ?_⟩
    · go_simp; (try rfl)
    go_simp; refine hK _ ?_; clear hK K
    refine step_end (by kernel_rfl) hreg ?_
    clear hreg
    go_wp2_with fail
    refine Calls.mono (toSupportS_any A0 n0 c0 xs0 _ ha0 hn0) ?_
    rintro _ w6 ⟨g6, rfl, q6, hB6, b6⟩
    replace ha0 := ha0.below2 b6
    replace hB3 := hB3.below2 b6
    replace hw := bw_trans hw b6
    have e0 : w6.cell? ⟨w.heap.size, 0, none⟩ = some (.int .i64 r1.a) := (hw.cell (p := ⟨_, _, none⟩) (by simp)).trans (by simp [go_sem])
    have e1 : w6.cell? ⟨w.heap.size, 1, none⟩ = some (.int .i64 r1.b) := (hw.cell (p := ⟨_, _, none⟩) (by simp)).trans (by simp [go_sem])
    have e2 : w6.cell? ⟨w.heap.size, 2, none⟩ = some (.int .i64 r1.c) := (hw.cell (p := ⟨_, _, none⟩) (by simp)).trans (by simp [go_sem])
    go_wp2_with fail
    refine Calls.mono (toLoadCase_any r1 _) ?_
    rintro _ w7 ⟨rfl, b7⟩
    replace ha0 := ha0.below2 b7
    replace hB3 := hB3.below2 b7
    replace hB6 := hB6.below2 b7
    replace hw := bw_trans hw b7
    unfold R3.v
    clear e0 e1 e2
    go_wp2_with fail
    refine Calls.mono (i_LeastCounter_any g6 0 n0 n0 xs0 r1 _ hB6.reads hn0) ?_
    rintro _ w8 ⟨rfl, b8⟩
    replace ha0 := ha0.below2 b8
    replace hB3 := hB3.below2 b8
    replace hB6 := hB6.below2 b8
    replace hw := bw_trans hw b8
    go_wp2_with fail
    refine Calls.mono (toSupportS_any A0 n0 c0 xs0 _ ha0 hn0) ?_
    rintro _ w9 ⟨g9, rfl, q9, hB9, b9⟩
    replace ha0 := ha0.below2 b9
    replace hB3 := hB3.below2 b9
    replace hB6 := hB6.below2 b9
    replace hw := bw_trans hw b9
    go_wp2_with fail
    refine Calls.mono (eqSupportS_any _ _ n0 n0 n0 n0 xs0 xs0 _ (ASup.of hB6.reads) (ASup.of hB9.reads) hn0 hn0) ?_
    rintro _ w10 ⟨rfl, b10⟩
    replace ha0 := ha0.below2 b10
    replace hB3 := hB3.below2 b10
    replace hB6 := hB6.below2 b10
    replace hB9 := hB9.below2 b10
    replace hw := bw_trans hw b10
    go_wp2_with fail
    go_ret
    exact ⟨rfl, bw_trans (bw_alloc (Below.refl _ _) _) hw⟩
end Go.Proofs.Ytppgfgklnfpgdaa
