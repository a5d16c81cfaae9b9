/- The supports with too great a tension. -/
import Derived.Test.YtppgfgklnfpgdaaUps
import Derived.Test.YtppgfgklnfpgdaaMark
import Derived.Test.YtppgfgklnfpgdaaIdx
import Derived.Test.YtppgfgklnfpgdaaFirst
namespace Go.Proofs.Ytppgfgklnfpgdaa
open Go.RowKit
def overT (l : Int) (v : Int) : Bool := decide (l < v)
def overL (xs : List Sup) (x : R3) (l : Int) (n k : Nat) : List Int := idxTo (overT l) (tens xs x x.c n) k
def overF (xs : List Sup) (x : R3) (l : Int) : List Int × Bool := if upB x.c xs x && inB l 0 1000000 then (overL xs x l xs.length xs.length, true) else ([], false)
theorem over_no {xs : List Sup} {x : R3} {l : Int} {n k : Nat} (hk : k < n) (h : ¬ l < tenAt xs x x.c k) : overL xs x l n (k + 1) = overL xs x l n k := idx_no (tens_at xs x x.c hk) (by simpa [overT] using h)
theorem over_yes {xs : List Sup} {x : R3} {l : Int} {n k : Nat} (hk : k < n) (h : l < tenAt xs x x.c k) : overL xs x l n (k + 1) = overL xs x l n k ++ [(k : Int)] := idx_yes (tens_at xs x x.c hk) (by simpa [overT] using h)
set_option maxHeartbeats 2000000 in
theorem i_OverTension_any (g off n c : Nat) (xs : List Sup) (x : R3) (l : Int) (w : World) (hs : SSup w g off n xs) (hn : n ≤ 1048576) : GI Try.prog 37 #[.slice (some ⟨g, off, none⟩) n c, x.v, .int .i64 l] w (overF xs x l) := by
  unfold GI
  obtain ⟨i0, hi, hz0, hz1, hz2⟩ := info_parts infoInt
  have Hi := Lib.hid hi
  have Hz0 := Lib.hid hz0
  have Hz1 := Lib.hid hz1
  have Hz2 := Lib.hid hz2
  clear hi hz0 hz1 hz2
  have hle := Lib.hid hs.2.1
  cases h1 : upB x.c xs x
  · have hfin := Lib.hid (show overF xs x l = ([], false) by simp [overF, h1])
    unfold R3.v
    go_enter Try.func37, Try.ntmps37
    go_wp2_with (first | (go_at_call 43; refine Calls.mono (up_no (i_up_any g off _ c xs x _ (by first | exact hs | exact hs.later _ | exact hs.alloc _ | exact (hs.alloc _).later _ | exact (hs.later _).alloc _ | exact ((hs.later _).alloc _).later _ | exact ((hs.alloc _).later _).alloc _ | exact (hs.alloc _).alloc _ | exact ((hs.alloc _).alloc _).later _ | exact (((hs.alloc _).later _).alloc _).later _) hn) h1) ?_; rintro _ w1 ⟨⟨A1, d1, rfl⟩, b1⟩; obtain ⟨y1, rfl⟩ := exists_later (bw_trans (a := (w.alloc (.cells #[.int .i64 x.a, .int .i64 x.b, .int .i64 x.c] 25))) (by repeat (with_reducible first | exact Below.refl _ _ | refine bw_later ?_ _ | refine bw_alloc ?_ _ | refine bw_drew ?_ | refine bw_set ?_ (Nat.le_refl _) _ | refine bw_set ?_ ?_ _ | exact Nat.le_refl _ | exact later_size _ _ | refine Nat.le_trans ?_ (later_size _ _) | refine Nat.le_trans ?_ (size_alloc_le _ _) | refine Nat.le_trans ?_ (Nat.le_add_right _ _))) b1); clear b1) | (go_at_call 39; refine (within_any _ _ _ _).on ?_; intro xq))
    all_goals (go_ret2; rw [hfin.out]; exact IntsB.none_ (by repeat (with_reducible first | exact Below.refl _ _ | refine bw_later ?_ _ | refine bw_alloc ?_ _ | refine bw_drew ?_ | refine bw_set ?_ (Nat.le_refl _) _ | refine bw_set ?_ ?_ _ | exact Nat.le_refl _ | exact later_size _ _ | refine Nat.le_trans ?_ (later_size _ _) | refine Nat.le_trans ?_ (size_alloc_le _ _) | refine Nat.le_trans ?_ (Nat.le_add_right _ _))))
  have hpos : 0 < n := by have := (upB_t h1).1.len; have := hle.out; omega
  have hn28 : n ≤ 28 := by have := (upB_t h1).1.len; have := hle.out; omega
  cases h2 : inB l 0 1000000
  · have hfin := Lib.hid (show overF xs x l = ([], false) by simp [overF, h1, h2])
    unfold R3.v
    go_enter Try.func37, Try.ntmps37
    go_wp2_with (first | (go_at_call 43; refine Calls.mono (up_yes (i_up_any g off _ c xs x _ (by first | exact hs | exact hs.later _ | exact hs.alloc _ | exact (hs.alloc _).later _ | exact (hs.later _).alloc _ | exact ((hs.later _).alloc _).later _ | exact ((hs.alloc _).later _).alloc _ | exact (hs.alloc _).alloc _ | exact ((hs.alloc _).alloc _).later _ | exact (((hs.alloc _).later _).alloc _).later _) hn) h1 hle.out hpos) ?_; rintro _ w1 ⟨⟨g1, d1, rfl, q1, z1, c1⟩, b1⟩; obtain ⟨y1, rfl⟩ := exists_later (bw_trans (a := (w.alloc (.cells #[.int .i64 x.a, .int .i64 x.b, .int .i64 x.c] 25))) (by repeat (with_reducible first | exact Below.refl _ _ | refine bw_later ?_ _ | refine bw_alloc ?_ _ | refine bw_drew ?_ | refine bw_set ?_ (Nat.le_refl _) _ | refine bw_set ?_ ?_ _ | exact Nat.le_refl _ | exact later_size _ _ | refine Nat.le_trans ?_ (later_size _ _) | refine Nat.le_trans ?_ (size_alloc_le _ _) | refine Nat.le_trans ?_ (Nat.le_add_right _ _))) b1); have C1 := Lib.hid c1; clear b1 c1 q1) | (go_at_call 39; refine (within_any _ _ _ _).on ?_; intro xq))
    all_goals (go_ret2; rw [hfin.out]; exact IntsB.none_ (by repeat (with_reducible first | exact Below.refl _ _ | refine bw_later ?_ _ | refine bw_alloc ?_ _ | refine bw_drew ?_ | refine bw_set ?_ (Nat.le_refl _) _ | refine bw_set ?_ ?_ _ | exact Nat.le_refl _ | exact later_size _ _ | refine Nat.le_trans ?_ (later_size _ _) | refine Nat.le_trans ?_ (size_alloc_le _ _) | refine Nat.le_trans ?_ (Nat.le_add_right _ _))))
  have hfin := Lib.hid (show overF xs x l = (overL xs x l n n, true) by simp [overF, h1, h2, hs.2.1])
  unfold R3.v
  go_enter Try.func37, Try.ntmps37
  go_wp2_with (first | (go_at_call 43; refine Calls.mono (up_yes (i_up_any g off _ c xs x _ (by first | exact hs | exact hs.later _ | exact hs.alloc _ | exact (hs.alloc _).later _ | exact (hs.later _).alloc _ | exact ((hs.later _).alloc _).later _ | exact ((hs.alloc _).later _).alloc _ | exact (hs.alloc _).alloc _ | exact ((hs.alloc _).alloc _).later _ | exact (((hs.alloc _).later _).alloc _).later _) hn) h1 hle.out hpos) ?_; rintro _ w1 ⟨⟨g1, d1, rfl, q1, z1, c1⟩, b1⟩; obtain ⟨y1, rfl⟩ := exists_later (bw_trans (a := (w.alloc (.cells #[.int .i64 x.a, .int .i64 x.b, .int .i64 x.c] 25))) (by repeat (with_reducible first | exact Below.refl _ _ | refine bw_later ?_ _ | refine bw_alloc ?_ _ | refine bw_drew ?_ | refine bw_set ?_ (Nat.le_refl _) _ | refine bw_set ?_ ?_ _ | exact Nat.le_refl _ | exact later_size _ _ | refine Nat.le_trans ?_ (later_size _ _) | refine Nat.le_trans ?_ (size_alloc_le _ _) | refine Nat.le_trans ?_ (Nat.le_add_right _ _))) b1); have C1 := Lib.hid c1; clear b1 c1 q1) | (go_at_call 39; refine (within_any _ _ _ _).on ?_; intro xq))
  have hge1 : w.heap.size ≤ (later (w.alloc (.cells #[.int .i64 x.a, .int .i64 x.b, .int .i64 x.c] 25)) y1).heap.size := by have := lt_later (w.alloc (.cells #[.int .i64 x.a, .int .i64 x.b, .int .i64 x.c] 25)) y1 w.heap.size (by simp <;> omega); omega
  go_loopw [10, 29] (fun t i wr => ∃ k : Nat, k ≤ n ∧ i = .int .i64 (k : Int) ∧ Below (later (w.alloc (.cells #[.int .i64 x.a, .int .i64 x.b, .int .i64 x.c] 25)) y1).heap.size (later (w.alloc (.cells #[.int .i64 x.a, .int .i64 x.b, .int .i64 x.c] 25)) y1) wr ∧ wr.ownsRow (later (w.alloc (.cells #[.int .i64 x.a, .int .i64 x.b, .int .i64 x.c] 25)) y1).heap.size 3 1 t (overL xs x l n k).length ((overL xs x l n k).map (Value.int .i64))) (fun _ i _ => n - (intOf i).toNat)
  case atStart => exact ⟨0, by omega, rfl, (by repeat (with_reducible first | exact Below.refl _ _ | refine bw_later ?_ _ | refine bw_alloc ?_ _ | refine bw_drew ?_ | refine bw_set ?_ (Nat.le_refl _) _ | refine bw_set ?_ ?_ _ | exact Nat.le_refl _ | exact later_size _ _ | refine Nat.le_trans ?_ (later_size _ _) | refine Nat.le_trans ?_ (size_alloc_le _ _) | refine Nat.le_trans ?_ (Nat.le_add_right _ _))), World.ownsRow_made _ #[] 0 (by first | exact (bw_later (Below.refl _ _) _).size | exact Nat.le_refl _) (by decide) rfl⟩
  case round =>
    obtain ⟨k, hk, rfl, hb, hown⟩ := hrel
    obtain ⟨y, rfl⟩ := exists_later hb
    clear hb
    have hpl := idx_len (overT l) (tens xs x x.c n) k
    rw [show idxTo (overT l) (tens xs x x.c n) k = overL xs x l n k from rfl] at hpl
    by_cases hlt : k < n
    · have ck := C1.out k hlt
      have hlen : (k : Int) < (n : Int) := by omega
      by_cases hgt : l < tenAt xs x x.c k
      · have Hg := Lib.hid hgt
        have hd : decide (l < tenAt xs x x.c k) = true := by simpa using hgt
        go_wp2_with (at_builtin; refine push_law rfl _ _ _ rfl i0 _ 1 8 Try.underlying40 Hi.out Hz0.out Hz1.out Hz2.out rfl (by decide) _ _ _ rfl (by first | exact hown | exact hown.alloc _) (w0 := (later (w.alloc (.cells #[.int .i64 x.a, .int .i64 x.b, .int .i64 x.c] 25)) y1)) (by repeat (with_reducible first | exact Below.refl _ _ | refine bw_later ?_ _ | refine bw_alloc ?_ _ | refine bw_drew ?_ | refine bw_set ?_ (Nat.le_refl _) _ | refine bw_set ?_ ?_ _ | exact Nat.le_refl _ | exact later_size _ _ | refine Nat.le_trans ?_ (later_size _ _) | refine Nat.le_trans ?_ (size_alloc_le _ _) | refine Nat.le_trans ?_ (Nat.le_add_right _ _))) _ (by simp) rfl rfl (by simp [Value.oneCell']) (by omega) (by omega) ?_; intro v1 y2 hown1)
        go_roundw
        case rel => exact ⟨k + 1, by omega, by go_num, (by repeat (with_reducible first | exact Below.refl _ _ | refine bw_later ?_ _ | refine bw_alloc ?_ _ | refine bw_drew ?_ | refine bw_set ?_ (Nat.le_refl _) _ | refine bw_set ?_ ?_ _ | exact Nat.le_refl _ | exact later_size _ _ | refine Nat.le_trans ?_ (later_size _ _) | refine Nat.le_trans ?_ (size_alloc_le _ _) | refine Nat.le_trans ?_ (Nat.le_add_right _ _))), by rw [over_yes hlt Hg.out]; simpa using hown1⟩
        case measure => simp [intOf]; omega
      · have Hg := Lib.hid hgt
        have hd : decide (l < tenAt xs x x.c k) = false := by simpa using hgt
        go_wp2
        go_roundw
        case rel => exact ⟨k + 1, by omega, by go_num, (by repeat (with_reducible first | exact Below.refl _ _ | refine bw_later ?_ _ | refine bw_alloc ?_ _ | refine bw_drew ?_ | refine bw_set ?_ (Nat.le_refl _) _ | refine bw_set ?_ ?_ _ | exact Nat.le_refl _ | exact later_size _ _ | refine Nat.le_trans ?_ (later_size _ _) | refine Nat.le_trans ?_ (size_alloc_le _ _) | refine Nat.le_trans ?_ (Nat.le_add_right _ _))), by rw [over_no hlt Hg.out]; first | exact hown | exact hown.alloc _⟩
        case measure => simp [intOf]; omega
    · obtain rfl : k = n := by omega
      go_wp2
      go_ret2
      rw [hfin.out]
      exact IntsB.some_ (own_lower hown hge1) (by omega) (by repeat (with_reducible first | exact Below.refl _ _ | refine bw_later ?_ _ | refine bw_alloc ?_ _ | refine bw_drew ?_ | refine bw_set ?_ (Nat.le_refl _) _ | refine bw_set ?_ ?_ _ | exact Nat.le_refl _ | exact later_size _ _ | refine Nat.le_trans ?_ (later_size _ _) | refine Nat.le_trans ?_ (size_alloc_le _ _) | refine Nat.le_trans ?_ (Nat.le_add_right _ _)))
set_option maxHeartbeats 2000000 in
theorem s_OverTension_any (g off n c : Nat) (xs : List Sup) (x : R3) (l : Int) (w : World) (hs : SSup w g off n xs) (hn : n ≤ 1048576) : GI Try.prog 36 #[.slice (some ⟨g, off, none⟩) n c, x.v, .int .i64 l] w (overF xs x l) := by
  unfold GI
  obtain ⟨i0, hi, hz0, hz1, hz2⟩ := info_parts infoInt
  have Hi := Lib.hid hi
  have Hz0 := Lib.hid hz0
  have Hz1 := Lib.hid hz1
  have Hz2 := Lib.hid hz2
  clear hi hz0 hz1 hz2
  have hle := Lib.hid hs.2.1
  cases h1 : upB x.c xs x
  · have hfin := Lib.hid (show overF xs x l = ([], false) by simp [overF, h1])
    unfold R3.v
    go_enter Try.func36, Try.ntmps36
    go_wp2_with (first | (go_at_call 30; refine Calls.mono (up_no (s_up_any g off _ c xs x _ (by first | exact (hs.alloc _).alloc _ | exact hs.alloc _) hn) h1) ?_; rintro _ w1 ⟨⟨A1, d1, rfl⟩, b1⟩; obtain ⟨y1, rfl⟩ := exists_later (bw_trans (a := ((w.alloc (.cells #[.int .i64 x.a, .int .i64 x.b, .int .i64 x.c] 25)).alloc (.cells #[] 3))) (by repeat (with_reducible first | exact Below.refl _ _ | refine bw_later ?_ _ | refine bw_alloc ?_ _ | refine bw_drew ?_ | refine bw_set ?_ (Nat.le_refl _) _ | refine bw_set ?_ ?_ _ | exact Nat.le_refl _ | exact later_size _ _ | refine Nat.le_trans ?_ (later_size _ _) | refine Nat.le_trans ?_ (size_alloc_le _ _) | refine Nat.le_trans ?_ (Nat.le_add_right _ _))) b1); clear b1) | (go_at_call 40; refine (in_any _ _ _ _).on ?_; intro xq))
    all_goals (go_ret2; rw [hfin.out]; exact IntsB.none_ (by repeat (with_reducible first | exact Below.refl _ _ | refine bw_later ?_ _ | refine bw_alloc ?_ _ | refine bw_drew ?_ | refine bw_set ?_ (Nat.le_refl _) _ | refine bw_set ?_ ?_ _ | exact Nat.le_refl _ | exact later_size _ _ | refine Nat.le_trans ?_ (later_size _ _) | refine Nat.le_trans ?_ (size_alloc_le _ _) | refine Nat.le_trans ?_ (Nat.le_add_right _ _))))
  have hpos : 0 < n := by have := (upB_t h1).1.len; have := hle.out; omega
  have hn28 : n ≤ 28 := by have := (upB_t h1).1.len; have := hle.out; omega
  cases h2 : inB l 0 1000000
  · have hfin := Lib.hid (show overF xs x l = ([], false) by simp [overF, h1, h2])
    unfold R3.v
    go_enter Try.func36, Try.ntmps36
    go_wp2_with (first | (go_at_call 30; refine Calls.mono (up_yes (s_up_any g off _ c xs x _ (by first | exact (hs.alloc _).alloc _ | exact hs.alloc _) hn) h1 hle.out hpos) ?_; rintro _ w1 ⟨⟨g1, d1, rfl, q1, z1, c1⟩, b1⟩; obtain ⟨y1, rfl⟩ := exists_later (bw_trans (a := ((w.alloc (.cells #[.int .i64 x.a, .int .i64 x.b, .int .i64 x.c] 25)).alloc (.cells #[] 3))) (by repeat (with_reducible first | exact Below.refl _ _ | refine bw_later ?_ _ | refine bw_alloc ?_ _ | refine bw_drew ?_ | refine bw_set ?_ (Nat.le_refl _) _ | refine bw_set ?_ ?_ _ | exact Nat.le_refl _ | exact later_size _ _ | refine Nat.le_trans ?_ (later_size _ _) | refine Nat.le_trans ?_ (size_alloc_le _ _) | refine Nat.le_trans ?_ (Nat.le_add_right _ _))) b1); have C1 := Lib.hid c1; clear b1 c1 q1) | (go_at_call 40; refine (in_any _ _ _ _).on ?_; intro xq))
    all_goals (go_ret2; rw [hfin.out]; exact IntsB.none_ (by repeat (with_reducible first | exact Below.refl _ _ | refine bw_later ?_ _ | refine bw_alloc ?_ _ | refine bw_drew ?_ | refine bw_set ?_ (Nat.le_refl _) _ | refine bw_set ?_ ?_ _ | exact Nat.le_refl _ | exact later_size _ _ | refine Nat.le_trans ?_ (later_size _ _) | refine Nat.le_trans ?_ (size_alloc_le _ _) | refine Nat.le_trans ?_ (Nat.le_add_right _ _))))
  have hfin := Lib.hid (show overF xs x l = (overL xs x l n n, true) by simp [overF, h1, h2, hs.2.1])
  unfold R3.v
  go_enter Try.func36, Try.ntmps36
  go_wp2_with (first | (go_at_call 30; refine Calls.mono (up_yes (s_up_any g off _ c xs x _ (by first | exact (hs.alloc _).alloc _ | exact hs.alloc _) hn) h1 hle.out hpos) ?_; rintro _ w1 ⟨⟨g1, d1, rfl, q1, z1, c1⟩, b1⟩; obtain ⟨y1, rfl⟩ := exists_later (bw_trans (a := ((w.alloc (.cells #[.int .i64 x.a, .int .i64 x.b, .int .i64 x.c] 25)).alloc (.cells #[] 3))) (by repeat (with_reducible first | exact Below.refl _ _ | refine bw_later ?_ _ | refine bw_alloc ?_ _ | refine bw_drew ?_ | refine bw_set ?_ (Nat.le_refl _) _ | refine bw_set ?_ ?_ _ | exact Nat.le_refl _ | exact later_size _ _ | refine Nat.le_trans ?_ (later_size _ _) | refine Nat.le_trans ?_ (size_alloc_le _ _) | refine Nat.le_trans ?_ (Nat.le_add_right _ _))) b1); have C1 := Lib.hid c1; clear b1 c1 q1) | (go_at_call 40; refine (in_any _ _ _ _).on ?_; intro xq))
  have hge1 : w.heap.size ≤ (later ((w.alloc (.cells #[.int .i64 x.a, .int .i64 x.b, .int .i64 x.c] 25)).alloc (.cells #[] 3)) y1).heap.size := by have := lt_later ((w.alloc (.cells #[.int .i64 x.a, .int .i64 x.b, .int .i64 x.c] 25)).alloc (.cells #[] 3)) y1 w.heap.size (by simp <;> omega); omega
  go_loopw [8, 11] (fun t i wr => ∃ k : Nat, k ≤ n ∧ i = .int .i64 (k : Int) ∧ Below (later ((w.alloc (.cells #[.int .i64 x.a, .int .i64 x.b, .int .i64 x.c] 25)).alloc (.cells #[] 3)) y1).heap.size (later ((w.alloc (.cells #[.int .i64 x.a, .int .i64 x.b, .int .i64 x.c] 25)).alloc (.cells #[] 3)) y1) wr ∧ ((t = .slice (some ⟨(w.alloc (.cells #[.int .i64 x.a, .int .i64 x.b, .int .i64 x.c] 25)).heap.size, 0, none⟩) 0 0 ∧ overL xs x l n k = []) ∨ wr.ownsRow (later ((w.alloc (.cells #[.int .i64 x.a, .int .i64 x.b, .int .i64 x.c] 25)).alloc (.cells #[] 3)) y1).heap.size 3 1 t (overL xs x l n k).length ((overL xs x l n k).map (Value.int .i64)))) (fun _ i _ => n - (intOf i).toNat)
  case atStart => exact ⟨0, by omega, rfl, (by repeat (with_reducible first | exact Below.refl _ _ | refine bw_later ?_ _ | refine bw_alloc ?_ _ | refine bw_drew ?_ | refine bw_set ?_ (Nat.le_refl _) _ | refine bw_set ?_ ?_ _ | exact Nat.le_refl _ | exact later_size _ _ | refine Nat.le_trans ?_ (later_size _ _) | refine Nat.le_trans ?_ (size_alloc_le _ _) | refine Nat.le_trans ?_ (Nat.le_add_right _ _))), .inl ⟨by first | rfl | simp, rfl⟩⟩
  case round =>
    obtain ⟨k, hk, rfl, hb, hown⟩ := hrel
    obtain ⟨y, rfl⟩ := exists_later hb
    clear hb
    have hpl := idx_len (overT l) (tens xs x x.c n) k
    rw [show idxTo (overT l) (tens xs x x.c n) k = overL xs x l n k from rfl] at hpl
    rcases hown with ⟨rfl, hnil⟩ | hown
    · by_cases hlt : k < n
      · have ck := C1.out k hlt
        have hlen : (k : Int) < (n : Int) := by omega
        by_cases hgt : l < tenAt xs x x.c k
        · have Hg := Lib.hid hgt
          have hd : decide (l < tenAt xs x x.c k) = true := by simpa using hgt
          go_wp2_with (at_builtin; refine push_first rfl _ _ _ rfl i0 _ 1 8 Try.underlying40 Hi.out Hz0.out Hz1.out Hz2.out rfl _ rfl (w0 := (later ((w.alloc (.cells #[.int .i64 x.a, .int .i64 x.b, .int .i64 x.c] 25)).alloc (.cells #[] 3)) y1)) (by repeat (with_reducible first | exact Below.refl _ _ | refine bw_later ?_ _ | refine bw_alloc ?_ _ | refine bw_drew ?_ | refine bw_set ?_ (Nat.le_refl _) _ | refine bw_set ?_ ?_ _ | exact Nat.le_refl _ | exact later_size _ _ | refine Nat.le_trans ?_ (later_size _ _) | refine Nat.le_trans ?_ (size_alloc_le _ _) | refine Nat.le_trans ?_ (Nat.le_add_right _ _))) _ (by simp) rfl rfl (by omega) ?_; intro v1 y2 hown1)
          go_roundw
          case rel => exact ⟨k + 1, by omega, by go_num, (by repeat (with_reducible first | exact Below.refl _ _ | refine bw_later ?_ _ | refine bw_alloc ?_ _ | refine bw_drew ?_ | refine bw_set ?_ (Nat.le_refl _) _ | refine bw_set ?_ ?_ _ | exact Nat.le_refl _ | exact later_size _ _ | refine Nat.le_trans ?_ (later_size _ _) | refine Nat.le_trans ?_ (size_alloc_le _ _) | refine Nat.le_trans ?_ (Nat.le_add_right _ _))), .inr (by rw [over_yes hlt Hg.out, hnil]; simpa using hown1)⟩
          case measure => simp [intOf]; omega
        · have Hg := Lib.hid hgt
          have hd : decide (l < tenAt xs x x.c k) = false := by simpa using hgt
          go_wp2
          go_roundw
          case rel => exact ⟨k + 1, by omega, by go_num, (by repeat (with_reducible first | exact Below.refl _ _ | refine bw_later ?_ _ | refine bw_alloc ?_ _ | refine bw_drew ?_ | refine bw_set ?_ (Nat.le_refl _) _ | refine bw_set ?_ ?_ _ | exact Nat.le_refl _ | exact later_size _ _ | refine Nat.le_trans ?_ (later_size _ _) | refine Nat.le_trans ?_ (size_alloc_le _ _) | refine Nat.le_trans ?_ (Nat.le_add_right _ _))), .inl ⟨rfl, by rw [over_no hlt Hg.out]; exact hnil⟩⟩
          case measure => simp [intOf]; omega
      · obtain rfl : k = n := by omega
        go_wp2
        go_ret2
        rw [hfin.out]
        rw [show overL xs x l k k = [] from hnil]
        exact ⟨_, 0, _, rfl, ⟨rfl, fun h => absurd h (by omega)⟩, by omega, (by repeat (with_reducible first | exact Below.refl _ _ | refine bw_later ?_ _ | refine bw_alloc ?_ _ | refine bw_drew ?_ | refine bw_set ?_ (Nat.le_refl _) _ | refine bw_set ?_ ?_ _ | exact Nat.le_refl _ | exact later_size _ _ | refine Nat.le_trans ?_ (later_size _ _) | refine Nat.le_trans ?_ (size_alloc_le _ _) | refine Nat.le_trans ?_ (Nat.le_add_right _ _)))⟩
    · by_cases hlt : k < n
      · have ck := C1.out k hlt
        have hlen : (k : Int) < (n : Int) := by omega
        by_cases hgt : l < tenAt xs x x.c k
        · have Hg := Lib.hid hgt
          have hd : decide (l < tenAt xs x x.c k) = true := by simpa using hgt
          go_wp2_with (at_builtin; refine push_law rfl _ _ _ rfl i0 _ 1 8 Try.underlying40 Hi.out Hz0.out Hz1.out Hz2.out rfl (by decide) _ _ _ rfl (by first | exact hown | exact hown.alloc _) (w0 := (later ((w.alloc (.cells #[.int .i64 x.a, .int .i64 x.b, .int .i64 x.c] 25)).alloc (.cells #[] 3)) y1)) (by repeat (with_reducible first | exact Below.refl _ _ | refine bw_later ?_ _ | refine bw_alloc ?_ _ | refine bw_drew ?_ | refine bw_set ?_ (Nat.le_refl _) _ | refine bw_set ?_ ?_ _ | exact Nat.le_refl _ | exact later_size _ _ | refine Nat.le_trans ?_ (later_size _ _) | refine Nat.le_trans ?_ (size_alloc_le _ _) | refine Nat.le_trans ?_ (Nat.le_add_right _ _))) _ (by simp) rfl rfl (by simp [Value.oneCell']) (by omega) (by omega) ?_; intro v1 y2 hown1)
          go_roundw
          case rel => exact ⟨k + 1, by omega, by go_num, (by repeat (with_reducible first | exact Below.refl _ _ | refine bw_later ?_ _ | refine bw_alloc ?_ _ | refine bw_drew ?_ | refine bw_set ?_ (Nat.le_refl _) _ | refine bw_set ?_ ?_ _ | exact Nat.le_refl _ | exact later_size _ _ | refine Nat.le_trans ?_ (later_size _ _) | refine Nat.le_trans ?_ (size_alloc_le _ _) | refine Nat.le_trans ?_ (Nat.le_add_right _ _))), .inr (by rw [over_yes hlt Hg.out]; simpa using hown1)⟩
          case measure => simp [intOf]; omega
        · have Hg := Lib.hid hgt
          have hd : decide (l < tenAt xs x x.c k) = false := by simpa using hgt
          go_wp2
          go_roundw
          case rel => exact ⟨k + 1, by omega, by go_num, (by repeat (with_reducible first | exact Below.refl _ _ | refine bw_later ?_ _ | refine bw_alloc ?_ _ | refine bw_drew ?_ | refine bw_set ?_ (Nat.le_refl _) _ | refine bw_set ?_ ?_ _ | exact Nat.le_refl _ | exact later_size _ _ | refine Nat.le_trans ?_ (later_size _ _) | refine Nat.le_trans ?_ (size_alloc_le _ _) | refine Nat.le_trans ?_ (Nat.le_add_right _ _))), .inr (by rw [over_no hlt Hg.out]; first | exact hown | exact hown.alloc _)⟩
          case measure => simp [intOf]; omega
      · obtain rfl : k = n := by omega
        go_wp2
        go_ret2
        rw [hfin.out]
        exact IntsB.some_ (own_lower hown hge1) (by omega) (by repeat (with_reducible first | exact Below.refl _ _ | refine bw_later ?_ _ | refine bw_alloc ?_ _ | refine bw_drew ?_ | refine bw_set ?_ (Nat.le_refl _) _ | refine bw_set ?_ ?_ _ | exact Nat.le_refl _ | exact later_size _ _ | refine Nat.le_trans ?_ (later_size _ _) | refine Nat.le_trans ?_ (size_alloc_le _ _) | refine Nat.le_trans ?_ (Nat.le_add_right _ _)))
theorem law_OverTension (A0 : Option Addr) (n0 c0 : Nat) (xs0 : List Sup) (r1 : R3) (a2 : Int) (w : World) (rd0 : ASup w A0 n0 xs0 ∧ n0 ≤ 9223372036854775807) (_ia2 : I64 a2) : Gv Try.prog 11 #[.slice A0 n0 c0, r1.v, .int .i64 a2] w (.bool true) := by
  obtain ⟨ha0, hm0⟩ := rd0
  replace ha0 := ha0.below2 (w' := (w.alloc (.cells #[.int .i64 r1.a, .int .i64 r1.b, .int .i64 r1.c] 23))) (bw_alloc (Below.refl _ _) _)
  unfold Gv
  unfold R3.v
  by_cases k0 : 1048576 < n0
  · have zz0 : szF n0 ((1048576 : Int)) = -1 := by unfold szF; rw [if_pos (by omega)]
    go_enter Try.func11, Try.ntmps11
    have hw : Below (w.alloc (.cells #[.int .i64 r1.a, .int .i64 r1.b, .int .i64 r1.c] 23)).heap.size (w.alloc (.cells #[.int .i64 r1.a, .int .i64 r1.b, .int .i64 r1.c] 23)) (w.alloc (.cells #[.int .i64 r1.a, .int .i64 r1.b, .int .i64 r1.c] 23)) := Below.refl _ _
    go_wp2_with fail
    refine Calls.mono (szSupport_any A0 n0 c0 ((1048576 : Int)) hm0 (by omega) (by omega) _) ?_
    rintro _ w1 ⟨rfl, b1⟩
    replace hw := bw_trans hw b1
    have z1 := b1.size
    rw [zz0]
    clear zz0
    go_wp2_with fail
    go_ret
    exact ⟨rfl, bw_trans (bw_alloc (Below.refl _ _) _) hw⟩
  · have hn0 : n0 ≤ 1048576 := by omega
    have zz0 : szF n0 ((1048576 : Int)) = (1048576 : Int) - (n0 : Int) := by unfold szF; rw [if_neg (by omega)]
    go_enter Try.func11, Try.ntmps11
    have hw : Below (w.alloc (.cells #[.int .i64 r1.a, .int .i64 r1.b, .int .i64 r1.c] 23)).heap.size (w.alloc (.cells #[.int .i64 r1.a, .int .i64 r1.b, .int .i64 r1.c] 23)) (w.alloc (.cells #[.int .i64 r1.a, .int .i64 r1.b, .int .i64 r1.c] 23)) := Below.refl _ _
    go_wp2_with fail
    refine Calls.mono (szSupport_any A0 n0 c0 ((1048576 : Int)) hm0 (by omega) (by omega) _) ?_
    rintro _ w1 ⟨rfl, b1⟩
    replace hw := bw_trans hw b1
    have z1 := b1.size
    rw [zz0]
    clear zz0
    go_wp2_with fail
    (refine wp_region_C (Below (w1).heap.size (w1)) (by kernel_rfl) ?_)
    generalize hgd2 : w1.drew = w2
    have b2 : Below w1.heap.size w1 w2 := by rw [← hgd2]; exact (Below.refl _ _).drew
    clear hgd2
    have f1_0 : w1.cell? ⟨w.heap.size, 0, none⟩ = some (.int .i64 r1.a) := (hw.cell (p := ⟨_, _, none⟩) (by simp)).trans (by simp [go_sem])
    have f1_1 : w1.cell? ⟨w.heap.size, 1, none⟩ = some (.int .i64 r1.b) := (hw.cell (p := ⟨_, _, none⟩) (by simp)).trans (by simp [go_sem])
    have f1_2 : w1.cell? ⟨w.heap.size, 2, none⟩ = some (.int .i64 r1.c) := (hw.cell (p := ⟨_, _, none⟩) (by simp)).trans (by simp [go_sem])
    have g1_ : w.heap.size < w1.heap.size := by have := hw.size; simp at this; omega
    have hreg := b2
    refine step_read (i := 0) (by kernel_rfl) (by kernel_rfl) rfl hreg rfl (fun K hK => ?_)
    apply Exists.intro
    refine ⟨fun x => ?_, ?_⟩
    · go_simp; (try rfl)
    go_simp; refine hK _ ?_; clear hK K
    refine step_read (i := 2) (by kernel_rfl) (by kernel_rfl) rfl hreg rfl (fun K hK => ?_)
    apply Exists.intro
    refine ⟨fun x => ?_, ?_⟩
    · go_simp; (try rfl)
    go_simp; refine hK _ ?_; clear hK K
    refine step_read (i := 4) (by kernel_rfl) (by kernel_rfl) rfl hreg rfl (fun K hK => ?_)
    apply Exists.intro
    refine ⟨fun x => ?_, ?_⟩
    · go_simp; (try rfl)
    go_simp; refine hK _ ?_; clear hK K
    clear f1_0 f1_1 f1_2 g1_
    replace hw := bw_trans hw b2
    have z2 := b2.size
    refine step_one (i := 1) (by kernel_rfl) rfl hreg (fun K hK => ?_)
    go_wp2_with fail
    refine Calls.mono (toSupportS_any A0 n0 c0 xs0 _ (ha0.below2 hw) hn0) ?_
    rintro _ w3 ⟨g3, rfl, q3, hB3, b3⟩
    replace hw := bw_trans hw b3
    have z3 := b3.size
    have u3 := hB3.lt
    have hO3 := hB3.own q3 u3
    replace hreg := bw_trans hreg b3
    (try go_wp2)
    (try refine hK _ _ ?_)
    (try clear hK K)
    refine step_one (i := 3) (by kernel_rfl) rfl hreg (fun K hK => ?_)
    go_wp2_with fail
    refine Calls.mono (toLoadCase_any r1 _) ?_
    rintro _ w4 ⟨rfl, b4⟩
    replace hO3 := hO3.below2 b4
    replace hw := bw_trans hw b4
    have z4 := b4.size
    replace hB3 := hB3.below2 b4
    (try unfold R3.v)
    replace hreg := bw_trans hreg b4
    (try go_wp2)
    (try refine hK _ _ ?_)
    (try clear hK K)
    refine step_one (i := 5) (by kernel_rfl) rfl hreg (fun K hK => ?_)
    go_wp2_with fail
    refine Calls.mono (s_OverTension_any g3 0 n0 n0 xs0 r1 a2 _ hB3.reads hn0) ?_
    rintro _ w5 ⟨Ar5, m5, d5, rfl, hO5, l5, b5⟩
    replace hO3 := hO3.below2 b5
    replace hw := bw_trans hw b5
    have z5 := b5.size
    replace hB3 := hB3.below2 b5
    replace hreg := bw_trans hreg b5
    (try go_wp2)
    (try refine hK _ _ ?_)
    (try clear hK K)
    refine step_read (i := 6) (by kernel_rfl) (by kernel_rfl) rfl hreg rfl (fun K hK => ?_)
    apply Exists.intro
    refine ⟨fun x => ?_, ?_⟩
    · go_simp; (try rfl)
    go_simp; refine hK _ ?_; clear hK K
    refine step_read (i := 7) (by kernel_rfl) (by kernel_rfl) rfl hreg rfl (fun K hK => ?_)
    apply Exists.intro
    refine ⟨fun x => ?_, ?_⟩
    · go_simp; (try rfl)
    go_simp; refine hK _ ?_; clear hK K
    refine step_read (i := 8) (by kernel_rfl) (by kernel_rfl) rfl hreg rfl (fun K hK => ?_)
    apply Exists.intro
    refine ⟨fun x => ?_, ?_⟩
    · go_simp; (try rfl)
    go_simp; refine hK _ ?_; clear hK K
    refine step_read (i := 9) (by kernel_rfl) (by kernel_rfl) rfl hreg rfl (fun K hK => ?_)
    apply Exists.intro
    refine ⟨fun x => ?_, ?_⟩
    · go_simp; (try rfl)
    go_simp; refine hK _ ?_; clear hK K
    refine step_read (i := 10) (by kernel_rfl) (by kernel_rfl) rfl hreg rfl (fun K hK => ?_)
    apply Exists.intro
    refine ⟨fun x => ?_, ?_⟩
    · go_simp; (try rfl)
    go_simp; refine hK _ ?_; clear hK K
    refine step_end (by kernel_rfl) hreg ?_
    clear hreg
    go_wp2_with fail
    refine Calls.mono (toSupportS_any A0 n0 c0 xs0 _ (ha0.below2 hw) hn0) ?_
    rintro _ w6 ⟨g6, rfl, q6, hB6, b6⟩
    replace hO5 := hO5.below2 b6
    replace hw := bw_trans hw b6
    have z6 := b6.size
    have u6 := hB6.lt
    have hO6 := hB6.own q6 u6
    have e0 : w6.cell? ⟨w.heap.size, 0, none⟩ = some (.int .i64 r1.a) := (hw.cell (p := ⟨_, _, none⟩) (by simp)).trans (by simp [go_sem])
    have e1 : w6.cell? ⟨w.heap.size, 1, none⟩ = some (.int .i64 r1.b) := (hw.cell (p := ⟨_, _, none⟩) (by simp)).trans (by simp [go_sem])
    have e2 : w6.cell? ⟨w.heap.size, 2, none⟩ = some (.int .i64 r1.c) := (hw.cell (p := ⟨_, _, none⟩) (by simp)).trans (by simp [go_sem])
    go_wp2_with fail
    refine Calls.mono (toLoadCase_any r1 _) ?_
    rintro _ w7 ⟨rfl, b7⟩
    replace hO5 := hO5.below2 b7
    replace hO6 := hO6.below2 b7
    replace hw := bw_trans hw b7
    have z7 := b7.size
    replace hB6 := hB6.below2 b7
    unfold R3.v
    clear e0 e1 e2
    go_wp2_with fail
    refine Calls.mono (i_OverTension_any g6 0 n0 n0 xs0 r1 a2 _ hB6.reads hn0) ?_
    rintro _ w8 ⟨Ar8, m8, d8, rfl, hO8, l8, b8⟩
    replace hO5 := hO5.below2 b8
    replace hO6 := hO6.below2 b8
    replace hw := bw_trans hw b8
    have z8 := b8.size
    replace hB6 := hB6.below2 b8
    go_wp2_with fail
    refine Calls.mono (eqIntS_any _ _ m8 m5 d8 d5 _ _ _ hO8.reads hO5.reads l8 l5) ?_
    rintro _ w9 ⟨rfl, b9⟩
    replace hO5 := hO5.below2 b9
    replace hO6 := hO6.below2 b9
    replace hO8 := hO8.below2 b9
    replace hw := bw_trans hw b9
    have z9 := b9.size
    go_wp2_with fail
    refine Calls.mono (toSupportS_any A0 n0 c0 xs0 _ (ha0.below2 hw) hn0) ?_
    rintro _ w10 ⟨g10, rfl, q10, hB10, b10⟩
    replace hO5 := hO5.below2 b10
    replace hO6 := hO6.below2 b10
    replace hO8 := hO8.below2 b10
    replace hw := bw_trans hw b10
    have z10 := b10.size
    have u10 := hB10.lt
    have hO10 := hB10.own q10 u10
    go_wp2_with fail
    refine Calls.mono (eqSupportS_any _ _ n0 n0 n0 n0 xs0 xs0 _ hO6.reads hO10.reads hn0 hn0) ?_
    rintro _ w11 ⟨rfl, b11⟩
    replace hO5 := hO5.below2 b11
    replace hO6 := hO6.below2 b11
    replace hO8 := hO8.below2 b11
    replace hO10 := hO10.below2 b11
    replace hw := bw_trans hw b11
    have z11 := b11.size
    go_wp2_with fail
    refine Calls.mono (markSupportS_any _ _ _ n0 n0 1 _ _ hO6 hn0 (by omega) (by omega)) ?_
    rintro _ w12 ⟨rfl, hO6, t12⟩
    replace hO5 := hO5.tch t12 (by omega) (by omega)
    replace hO8 := hO8.tch t12 (by omega) (by omega)
    replace hw := hw.trans (t12.below (B := (w.alloc (.cells #[.int .i64 r1.a, .int .i64 r1.b, .int .i64 r1.c] 23)).heap.size) (by omega) (by omega))
    have z12 := t12.size
    go_wp2_with fail
    refine Calls.mono (eqIntS_any _ _ m8 m5 d8 d5 _ _ _ hO8.reads hO5.reads l8 l5) ?_
    rintro _ w13 ⟨rfl, b13⟩
    replace hO5 := hO5.below2 b13
    replace hO8 := hO8.below2 b13
    replace hw := bw_trans hw b13
    have z13 := b13.size
    go_wp2_with fail
    refine Calls.mono (markIntS_any _ _ _ m8 d8 1 _ _ hO8 l8 (by omega) (by omega)) ?_
    rintro _ w14 ⟨rfl, hO8, t14⟩
    replace hO5 := hO5.tch t14 (by omega) (by omega)
    replace hw := hw.trans (t14.below (B := (w.alloc (.cells #[.int .i64 r1.a, .int .i64 r1.b, .int .i64 r1.c] 23)).heap.size) (by omega) (by omega))
    have z14 := t14.size
    go_wp2_with fail
    refine Calls.mono (heldIntS_any _ m8 d8 1 _ hO8.reads l8 (by omega) (by omega)) ?_
    rintro _ w15 ⟨rfl, b15⟩
    replace hO5 := hO5.below2 b15
    replace hO8 := hO8.below2 b15
    replace hw := bw_trans hw b15
    have z15 := b15.size
    go_wp2_with fail
    (refine wp_region_C (Below (w15).heap.size (w15)) (by kernel_rfl) ?_)
    generalize hgd16 : w15.drew = w16
    have b16 : Below w15.heap.size w15 w16 := by rw [← hgd16]; exact (Below.refl _ _).drew
    clear hgd16
    have f1_0 : w15.cell? ⟨w.heap.size, 0, none⟩ = some (.int .i64 r1.a) := (hw.cell (p := ⟨_, _, none⟩) (by simp)).trans (by simp [go_sem])
    have f1_1 : w15.cell? ⟨w.heap.size, 1, none⟩ = some (.int .i64 r1.b) := (hw.cell (p := ⟨_, _, none⟩) (by simp)).trans (by simp [go_sem])
    have f1_2 : w15.cell? ⟨w.heap.size, 2, none⟩ = some (.int .i64 r1.c) := (hw.cell (p := ⟨_, _, none⟩) (by simp)).trans (by simp [go_sem])
    have g1_ : w.heap.size < w15.heap.size := by have := hw.size; simp at this; omega
    have hreg := b16
    refine step_read (i := 0) (by kernel_rfl) (by kernel_rfl) rfl hreg rfl (fun K hK => ?_)
    apply Exists.intro
    refine ⟨fun x => ?_, ?_⟩
    · go_simp; (try rfl)
    go_simp; refine hK _ ?_; clear hK K
    refine step_read (i := 2) (by kernel_rfl) (by kernel_rfl) rfl hreg rfl (fun K hK => ?_)
    apply Exists.intro
    refine ⟨fun x => ?_, ?_⟩
    · go_simp; (try rfl)
    go_simp; refine hK _ ?_; clear hK K
    refine step_read (i := 4) (by kernel_rfl) (by kernel_rfl) rfl hreg rfl (fun K hK => ?_)
    apply Exists.intro
    refine ⟨fun x => ?_, ?_⟩
    · go_simp; (try rfl)
    go_simp; refine hK _ ?_; clear hK K
    clear f1_0 f1_1 f1_2 g1_
    replace hO5 := hO5.below2 b16
    replace hO8 := hO8.below2 b16
    replace hw := bw_trans hw b16
    have z16 := b16.size
    refine step_one (i := 1) (by kernel_rfl) rfl hreg (fun K hK => ?_)
    go_wp2_with fail
    refine Calls.mono (toSupportS_any A0 n0 c0 xs0 _ (ha0.below2 hw) hn0) ?_
    rintro _ w17 ⟨g17, rfl, q17, hB17, b17⟩
    replace hO5 := hO5.below2 b17
    replace hO8 := hO8.below2 b17
    replace hw := bw_trans hw b17
    have z17 := b17.size
    have u17 := hB17.lt
    have hO17 := hB17.own q17 u17
    replace hreg := bw_trans hreg b17
    (try go_wp2)
    (try refine hK _ _ ?_)
    (try clear hK K)
    refine step_one (i := 3) (by kernel_rfl) rfl hreg (fun K hK => ?_)
    go_wp2_with fail
    refine Calls.mono (toLoadCase_any r1 _) ?_
    rintro _ w18 ⟨rfl, b18⟩
    replace hO5 := hO5.below2 b18
    replace hO8 := hO8.below2 b18
    replace hO17 := hO17.below2 b18
    replace hw := bw_trans hw b18
    have z18 := b18.size
    replace hB17 := hB17.below2 b18
    (try unfold R3.v)
    replace hreg := bw_trans hreg b18
    (try go_wp2)
    (try refine hK _ _ ?_)
    (try clear hK K)
    refine step_one (i := 5) (by kernel_rfl) rfl hreg (fun K hK => ?_)
    go_wp2_with fail
    refine Calls.mono (i_OverTension_any g17 0 n0 n0 xs0 r1 a2 _ hB17.reads hn0) ?_
    rintro _ w19 ⟨Ar19, m19, d19, rfl, hO19, l19, b19⟩
    replace hO5 := hO5.below2 b19
    replace hO8 := hO8.below2 b19
    replace hO17 := hO17.below2 b19
    replace hw := bw_trans hw b19
    have z19 := b19.size
    replace hB17 := hB17.below2 b19
    replace hreg := bw_trans hreg b19
    (try go_wp2)
    (try refine hK _ _ ?_)
    (try clear hK K)
    refine step_read (i := 6) (by kernel_rfl) (by kernel_rfl) rfl hreg rfl (fun K hK => ?_)
    apply Exists.intro
    refine ⟨fun x => ?_, ?_⟩
    · go_simp; (try rfl)
    go_simp; refine hK _ ?_; clear hK K
    refine step_read (i := 7) (by kernel_rfl) (by kernel_rfl) rfl hreg rfl (fun K hK => ?_)
    apply Exists.intro
    refine ⟨fun x => ?_, ?_⟩
    · go_simp; (try rfl)
    go_simp; refine hK _ ?_; clear hK K
    refine step_read (i := 8) (by kernel_rfl) (by kernel_rfl) rfl hreg rfl (fun K hK => ?_)
    apply Exists.intro
    refine ⟨fun x => ?_, ?_⟩
    · go_simp; (try rfl)
    go_simp; refine hK _ ?_; clear hK K
    refine step_read (i := 9) (by kernel_rfl) (by kernel_rfl) rfl hreg rfl (fun K hK => ?_)
    apply Exists.intro
    refine ⟨fun x => ?_, ?_⟩
    · go_simp; (try rfl)
    go_simp; refine hK _ ?_; clear hK K
    refine step_read (i := 10) (by kernel_rfl) (by kernel_rfl) rfl hreg rfl (fun K hK => ?_)
    apply Exists.intro
    refine ⟨fun x => ?_, ?_⟩
    · go_simp; (try rfl)
    go_simp; refine hK _ ?_; clear hK K
    refine step_end (by kernel_rfl) hreg ?_
    clear hreg
    go_wp2_with fail
    refine Calls.mono (eqIntS_any _ _ m19 m5 d19 d5 _ _ _ hO19.reads hO5.reads l19 l5) ?_
    rintro _ w20 ⟨rfl, b20⟩
    replace hO5 := hO5.below2 b20
    replace hO8 := hO8.below2 b20
    replace hO19 := hO19.below2 b20
    replace hw := bw_trans hw b20
    have z20 := b20.size
    go_wp2_with fail
    refine Calls.mono (heldIntS_any _ m8 d8 1 _ hO8.reads l8 (by omega) (by omega)) ?_
    rintro _ w21 ⟨rfl, b21⟩
    replace hO5 := hO5.below2 b21
    replace hO8 := hO8.below2 b21
    replace hO19 := hO19.below2 b21
    replace hw := bw_trans hw b21
    have z21 := b21.size
    go_wp2_with fail
    go_ret
    exact ⟨rfl, bw_trans (bw_alloc (Below.refl _ _) _) hw⟩
end Go.Proofs.Ytppgfgklnfpgdaa
