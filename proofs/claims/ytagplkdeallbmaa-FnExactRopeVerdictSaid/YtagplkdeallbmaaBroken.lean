/- The broken wires of a window. -/
import Derived.Test.YtagplkdeallbmaaDamageSpec
namespace Go.Proofs.Ytagplkdeallbmaa
open Go.RowKit
def hit (f l st : Int) (d : R3) : Bool := inB d.a f (f + l - 1) && (decide (st < 0) || (d.b == st))
def brokenTo (f l st : Int) (xs : List R3) : Nat → Int
  | 0 => 0
  | k + 1 => match xs[k]? with
    | some d => if hit f l st d then brokenTo f l st xs k + d.c else brokenTo f l st xs k
    | none => brokenTo f l st xs k
theorem broken_no {f l st : Int} {xs : List R3} {k : Nat} {d : R3} (hr : xs[k]? = some d) (h : hit f l st d = false) : brokenTo f l st xs (k + 1) = brokenTo f l st xs k := by simp [brokenTo, hr, h]
theorem broken_yes {f l st : Int} {xs : List R3} {k : Nat} {d : R3} (hr : xs[k]? = some d) (h : hit f l st d = true) : brokenTo f l st xs (k + 1) = brokenTo f l st xs k + d.c := by simp [brokenTo, hr, h]
/-- What of the damages the sums need. -/
def Wires (xs : List R3) : Prop := ∀ (i : Nat) (d : R3), xs[i]? = some d → (1 ≤ d.c ∧ d.c ≤ 40) ∧ (0 ≤ d.a ∧ d.a ≤ 3000)
theorem wires_of {k : R5} {xs : List R3} (h : okDam k xs = true) : Wires xs := fun i d hd => by
  obtain ⟨hk, _, hc⟩ := okDam_t h
  have hp := chain_each hc hd
  obtain ⟨-, -, ⟨-, b⟩, -, -⟩ := kind_bd hk
  simp only [isDam, Bool.and_eq_true] at hp
  obtain ⟨⟨h1, _⟩, h3⟩ := hp
  have a := inB_t h1
  have b' := inB_t h3
  exact ⟨⟨b'.1, by omega⟩, a⟩
theorem broken_bd {f l st : Int} {xs : List R3} (hx : Wires xs) (k : Nat) : 0 ≤ brokenTo f l st xs k ∧ brokenTo f l st xs k ≤ 40 * (k : Int) := by
  induction k with
  | zero => simp [brokenTo]
  | succ k ih =>
    unfold brokenTo
    split
    · rename_i d hd
      obtain ⟨⟨h1, h2⟩, -⟩ := hx k d hd
      split <;> omega
    · omega
set_option maxHeartbeats 1000000 in
theorem i_broken_any (g off n c : Nat) (xs : List R3) (f l st : Int) (w : World) (hs : SR3 w g off n xs) (hn : n ≤ 15) (hx : Wires xs) (f0 : 0 ≤ f) (f1 : f ≤ 3000) (l0 : 1 ≤ l) (l1 : l ≤ 3000) :
    Gv Try.prog 55 #[.slice (some ⟨g, off, none⟩) n c, .int .i64 f, .int .i64 l, .int .i64 st] w (.int .i64 (brokenTo f l st xs n)) := by
  unfold Gv
  have hl := Lib.hid hs.2.1
  have hg := hs.1
  go_enter Try.func55, Try.ntmps55
  go_wp2
  go_loopw [9, 14] (fun t i wr => ∃ (k : Nat) (s : Int), Below w.heap.size w wr ∧ k ≤ n ∧ i = .int .i64 (k : Int) ∧ t = .int .i64 s ∧ 0 ≤ s ∧ s ≤ 40 * (k : Int) ∧ Hid (s = brokenTo f l st xs k)) (fun _ i _ => n - (intOf i).toNat)
  case atStart => exact ⟨0, 0, Below.refl _ _, by omega, rfl, rfl, by omega, by omega, rfl⟩
  case round =>
    obtain ⟨k, s, hb, hk, rfl, rfl, s0, s1, hsum⟩ := hrel
    obtain ⟨y, rfl⟩ := exists_later hb
    clear hb
    have hgy := lt_later _ y g hg
    by_cases hlt : k < n
    · obtain ⟨d, hr0⟩ := hs.at_ hlt
      obtain ⟨c0, c1, c2⟩ := hs.2.2 k d hr0
      obtain ⟨⟨b1, b2⟩, -⟩ := hx k d hr0
      have hr := Lib.hid hr0
      clear hr0
      cases p0 : inB d.a f (f + l - 1)
      · go_wp2_with (first | ((with_reducible refine wp_region_later (by kernel_rfl) (by kernel_rfl) ?_); (repeat (go_big_quiet_step (fail))); refine wpQuiet_nil ?_; rintro _ ⟨xr, rfl⟩) | (go_at_call 44; (first | refine (within_any _ _ _ _).onL ?_ | refine (within_any _ _ _ _).on ?_); intro xq))
        go_roundw
        case rel => exact ⟨k + 1, s, (by repeat (with_reducible first | exact Below.refl _ _ | refine bw_later ?_ _ | refine bw_alloc ?_ _ | refine bw_drew ?_ | refine bw_set ?_ (Nat.le_refl _) _ | refine bw_set ?_ ?_ _ | exact Nat.le_refl _ | exact later_size _ _ | refine Nat.le_trans ?_ (later_size _ _) | refine Nat.le_trans ?_ (size_alloc_le _ _) | refine Nat.le_trans ?_ (Nat.le_add_right _ _))), by omega, by go_num, rfl, s0, by omega, hsum.out.trans (broken_no hr.out (by simp [hit, p0])).symm⟩
        case measure => simp [intOf]; omega
      · cases p1 : decide (st < 0)
        · cases p2 : (d.b == st)
          · go_wp2_with (first | ((with_reducible refine wp_region_later (by kernel_rfl) (by kernel_rfl) ?_); (repeat (go_big_quiet_step (fail))); refine wpQuiet_nil ?_; rintro _ ⟨xr, rfl⟩) | (go_at_call 44; (first | refine (within_any _ _ _ _).onL ?_ | refine (within_any _ _ _ _).on ?_); intro xq))
            go_roundw
            case rel => exact ⟨k + 1, s, (by repeat (with_reducible first | exact Below.refl _ _ | refine bw_later ?_ _ | refine bw_alloc ?_ _ | refine bw_drew ?_ | refine bw_set ?_ (Nat.le_refl _) _ | refine bw_set ?_ ?_ _ | exact Nat.le_refl _ | exact later_size _ _ | refine Nat.le_trans ?_ (later_size _ _) | refine Nat.le_trans ?_ (size_alloc_le _ _) | refine Nat.le_trans ?_ (Nat.le_add_right _ _))), by omega, by go_num, rfl, s0, by omega, hsum.out.trans (broken_no hr.out (by simp [hit, p0, of_decide_eq_false p1, (by simpa using p2 : ¬ d.b = st)])).symm⟩
            case measure => simp [intOf]; omega
          · go_wp2_with (first | ((with_reducible refine wp_region_later (by kernel_rfl) (by kernel_rfl) ?_); (repeat (go_big_quiet_step (fail))); refine wpQuiet_nil ?_; rintro _ ⟨xr, rfl⟩) | (go_at_call 44; (first | refine (within_any _ _ _ _).onL ?_ | refine (within_any _ _ _ _).on ?_); intro xq))
            go_roundw
            case rel => exact ⟨k + 1, s + d.c, (by repeat (with_reducible first | exact Below.refl _ _ | refine bw_later ?_ _ | refine bw_alloc ?_ _ | refine bw_drew ?_ | refine bw_set ?_ (Nat.le_refl _) _ | refine bw_set ?_ ?_ _ | exact Nat.le_refl _ | exact later_size _ _ | refine Nat.le_trans ?_ (later_size _ _) | refine Nat.le_trans ?_ (size_alloc_le _ _) | refine Nat.le_trans ?_ (Nat.le_add_right _ _))), by omega, by go_num, rfl, by omega, by omega, (congrArg (· + d.c) hsum.out).trans (broken_yes hr.out (by simp [hit, p0, (by simpa using p2 : d.b = st)])).symm⟩
            case measure => simp [intOf]; omega
        · go_wp2_with (first | ((with_reducible refine wp_region_later (by kernel_rfl) (by kernel_rfl) ?_); (repeat (go_big_quiet_step (fail))); refine wpQuiet_nil ?_; rintro _ ⟨xr, rfl⟩) | (go_at_call 44; (first | refine (within_any _ _ _ _).onL ?_ | refine (within_any _ _ _ _).on ?_); intro xq))
          go_roundw
          case rel => exact ⟨k + 1, s + d.c, (by repeat (with_reducible first | exact Below.refl _ _ | refine bw_later ?_ _ | refine bw_alloc ?_ _ | refine bw_drew ?_ | refine bw_set ?_ (Nat.le_refl _) _ | refine bw_set ?_ ?_ _ | exact Nat.le_refl _ | exact later_size _ _ | refine Nat.le_trans ?_ (later_size _ _) | refine Nat.le_trans ?_ (size_alloc_le _ _) | refine Nat.le_trans ?_ (Nat.le_add_right _ _))), by omega, by go_num, rfl, by omega, by omega, (congrArg (· + d.c) hsum.out).trans (broken_yes hr.out (by simp [hit, p0, of_decide_eq_true p1])).symm⟩
          case measure => simp [intOf]; omega
    · obtain rfl : k = n := by omega
      go_wp2
      go_ret
      exact ⟨by rw [← hsum.out]; rfl, (by repeat (with_reducible first | exact Below.refl _ _ | refine bw_later ?_ _ | refine bw_alloc ?_ _ | refine bw_drew ?_ | refine bw_set ?_ (Nat.le_refl _) _ | refine bw_set ?_ ?_ _ | exact Nat.le_refl _ | exact later_size _ _ | refine Nat.le_trans ?_ (later_size _ _) | refine Nat.le_trans ?_ (size_alloc_le _ _) | refine Nat.le_trans ?_ (Nat.le_add_right _ _)))⟩
set_option maxHeartbeats 1000000 in
theorem s_broken_any (g off n c : Nat) (xs : List R3) (f l st : Int) (w : World) (hs : SR3 w g off n xs) (hn : n ≤ 15) (hx : Wires xs) (f0 : 0 ≤ f) (f1 : f ≤ 3000) (l0 : 1 ≤ l) (l1 : l ≤ 3000) :
    Gv Try.prog 54 #[.slice (some ⟨g, off, none⟩) n c, .int .i64 f, .int .i64 l, .int .i64 st] w (.int .i64 (brokenTo f l st xs n)) := by
  unfold Gv
  have hl := Lib.hid hs.2.1
  have hg := hs.1
  go_enter Try.func54, Try.ntmps54
  go_wp2
  go_loopw [9, 10] (fun t i wr => ∃ (k : Nat) (s : Int), Below w.heap.size w wr ∧ k ≤ n ∧ i = .int .i64 (k : Int) ∧ t = .int .i64 s ∧ 0 ≤ s ∧ s ≤ 40 * (k : Int) ∧ Hid (s = brokenTo f l st xs k)) (fun _ i _ => n - (intOf i).toNat)
  case atStart => exact ⟨0, 0, Below.refl _ _, by omega, rfl, rfl, by omega, by omega, rfl⟩
  case round =>
    obtain ⟨k, s, hb, hk, rfl, rfl, s0, s1, hsum⟩ := hrel
    obtain ⟨y, rfl⟩ := exists_later hb
    clear hb
    have hgy := lt_later _ y g hg
    by_cases hlt : k < n
    · obtain ⟨d, hr0⟩ := hs.at_ hlt
      obtain ⟨c0, c1, c2⟩ := hs.2.2 k d hr0
      obtain ⟨⟨b1, b2⟩, -⟩ := hx k d hr0
      have hr := Lib.hid hr0
      clear hr0
      cases p0 : inB d.a f (f + l - 1)
      · go_wp2_with (first | ((with_reducible refine wp_region_later (by kernel_rfl) (by kernel_rfl) ?_); (repeat (go_big_quiet_step (fail))); refine wpQuiet_nil ?_; rintro _ ⟨xr, rfl⟩) | (go_at_call 45; (first | refine (in_any _ _ _ _).onL ?_ | refine (in_any _ _ _ _).on ?_); intro xq))
        go_roundw
        case rel => exact ⟨k + 1, s, (by repeat (with_reducible first | exact Below.refl _ _ | refine bw_later ?_ _ | refine bw_alloc ?_ _ | refine bw_drew ?_ | refine bw_set ?_ (Nat.le_refl _) _ | refine bw_set ?_ ?_ _ | exact Nat.le_refl _ | exact later_size _ _ | refine Nat.le_trans ?_ (later_size _ _) | refine Nat.le_trans ?_ (size_alloc_le _ _) | refine Nat.le_trans ?_ (Nat.le_add_right _ _))), by omega, by go_num, rfl, s0, by omega, hsum.out.trans (broken_no hr.out (by simp [hit, p0])).symm⟩
        case measure => simp [intOf]; omega
      · cases p1 : decide (st < 0)
        · cases p2 : (d.b == st)
          · go_wp2_with (first | ((with_reducible refine wp_region_later (by kernel_rfl) (by kernel_rfl) ?_); (repeat (go_big_quiet_step (fail))); refine wpQuiet_nil ?_; rintro _ ⟨xr, rfl⟩) | (go_at_call 45; (first | refine (in_any _ _ _ _).onL ?_ | refine (in_any _ _ _ _).on ?_); intro xq))
            go_roundw
            case rel => exact ⟨k + 1, s, (by repeat (with_reducible first | exact Below.refl _ _ | refine bw_later ?_ _ | refine bw_alloc ?_ _ | refine bw_drew ?_ | refine bw_set ?_ (Nat.le_refl _) _ | refine bw_set ?_ ?_ _ | exact Nat.le_refl _ | exact later_size _ _ | refine Nat.le_trans ?_ (later_size _ _) | refine Nat.le_trans ?_ (size_alloc_le _ _) | refine Nat.le_trans ?_ (Nat.le_add_right _ _))), by omega, by go_num, rfl, s0, by omega, hsum.out.trans (broken_no hr.out (by simp [hit, p0, of_decide_eq_false p1, (by simpa using p2 : ¬ d.b = st)])).symm⟩
            case measure => simp [intOf]; omega
          · go_wp2_with (first | ((with_reducible refine wp_region_later (by kernel_rfl) (by kernel_rfl) ?_); (repeat (go_big_quiet_step (fail))); refine wpQuiet_nil ?_; rintro _ ⟨xr, rfl⟩) | (go_at_call 45; (first | refine (in_any _ _ _ _).onL ?_ | refine (in_any _ _ _ _).on ?_); intro xq))
            go_roundw
            case rel => exact ⟨k + 1, s + d.c, (by repeat (with_reducible first | exact Below.refl _ _ | refine bw_later ?_ _ | refine bw_alloc ?_ _ | refine bw_drew ?_ | refine bw_set ?_ (Nat.le_refl _) _ | refine bw_set ?_ ?_ _ | exact Nat.le_refl _ | exact later_size _ _ | refine Nat.le_trans ?_ (later_size _ _) | refine Nat.le_trans ?_ (size_alloc_le _ _) | refine Nat.le_trans ?_ (Nat.le_add_right _ _))), by omega, by go_num, rfl, by omega, by omega, (congrArg (· + d.c) hsum.out).trans (broken_yes hr.out (by simp [hit, p0, (by simpa using p2 : d.b = st)])).symm⟩
            case measure => simp [intOf]; omega
        · go_wp2_with (first | ((with_reducible refine wp_region_later (by kernel_rfl) (by kernel_rfl) ?_); (repeat (go_big_quiet_step (fail))); refine wpQuiet_nil ?_; rintro _ ⟨xr, rfl⟩) | (go_at_call 45; (first | refine (in_any _ _ _ _).onL ?_ | refine (in_any _ _ _ _).on ?_); intro xq))
          go_roundw
          case rel => exact ⟨k + 1, s + d.c, (by repeat (with_reducible first | exact Below.refl _ _ | refine bw_later ?_ _ | refine bw_alloc ?_ _ | refine bw_drew ?_ | refine bw_set ?_ (Nat.le_refl _) _ | refine bw_set ?_ ?_ _ | exact Nat.le_refl _ | exact later_size _ _ | refine Nat.le_trans ?_ (later_size _ _) | refine Nat.le_trans ?_ (size_alloc_le _ _) | refine Nat.le_trans ?_ (Nat.le_add_right _ _))), by omega, by go_num, rfl, by omega, by omega, (congrArg (· + d.c) hsum.out).trans (broken_yes hr.out (by simp [hit, p0, of_decide_eq_true p1])).symm⟩
          case measure => simp [intOf]; omega
    · obtain rfl : k = n := by omega
      go_wp2
      go_ret
      exact ⟨by rw [← hsum.out]; rfl, (by repeat (with_reducible first | exact Below.refl _ _ | refine bw_later ?_ _ | refine bw_alloc ?_ _ | refine bw_drew ?_ | refine bw_set ?_ (Nat.le_refl _) _ | refine bw_set ?_ ?_ _ | exact Nat.le_refl _ | exact later_size _ _ | refine Nat.le_trans ?_ (later_size _ _) | refine Nat.le_trans ?_ (size_alloc_le _ _) | refine Nat.le_trans ?_ (Nat.le_add_right _ _)))⟩
end Go.Proofs.Ytagplkdeallbmaa
