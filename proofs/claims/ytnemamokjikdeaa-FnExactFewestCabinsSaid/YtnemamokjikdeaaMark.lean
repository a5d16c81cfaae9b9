/- The laws' marks: a slice is filled with a rising count; later it is asked whether it still holds it. -/
import Derived.Test.YtnemamokjikdeaaRows
import Derived.Test.YtnemamokjikdeaaOwn
namespace Go.Proofs.Ytnemamokjikdeaa
open Go.RowKit
theorem markIntS_any (lo hi : Nat) (A : Option Addr) (n c : Nat) (k : Int) (xs : List Int) (w : World) (ho : OI w lo hi A n xs) (hn : n ≤ 1048576) (hk0 : 0 ≤ k) (hk1 : k ≤ 1000) :
    Calls Try.prog 30 #[.slice A n c, .int .i64 k] w fun e w' => e = .returned (.int .i64 (k + (n : Int))) ∧ OI w' lo hi A n (I.marked n k) ∧ Tch w w' lo hi := by
  go_enter Try.func30, Try.ntmps30
  go_wp2
  go_loopw [1, 5] (fun s i wr => ∃ (j : Nat) (ys : List Int), j ≤ n ∧ i = .int .i64 (j : Int) ∧ s = .int .i64 (k + (j : Int)) ∧ OI wr lo hi A n ys ∧ Tch w wr lo hi ∧ Hid (∀ i, i < j → ys[i]? = some (I.mk_ (k + (i : Int))))) (fun _ i _ => n - (intOf i).toNat)
  case atStart => exact ⟨0, xs, by omega, rfl, by simp, ho, Tch.refl _ _ _, fun i hi => absurd hi (by omega)⟩
  case round =>
    obtain ⟨j, ys, hj, rfl, rfl, hO, ht, hx⟩ := hrel
    by_cases hlt : j < n
    · obtain ⟨g, rfl, hlo, hhi, hgs, fz, hc⟩ := hO.cells (by omega)
      obtain ⟨q, hq0⟩ := hO.at_ hlt
      have c0 := hc j q hq0
      have hq := Lib.hid hq0
      clear hq0 hc
      have hkl : j < ys.length := by have := hO.1; omega
      go_wp2
      go_roundw
      case rel =>
        refine ⟨j + 1, _, by omega, by go_num, by go_num, hO.store (k := j) hq.out (I.mk_ (k + (j : Int))), by repeat (with_reducible first | exact ht | refine Tch.set ?_ hlo hhi _), fun i hi => ?_⟩
        rcases Nat.lt_or_ge i j with h | h
        · rw [List.getElem?_set, if_neg (by omega)]
          exact hx.out i h
        · obtain rfl : i = j := by omega
          simp [hkl, I.mk_]
      case measure => simp [intOf]; omega
    · obtain rfl : j = n := by omega
      go_wp2
      go_ret
      have hxs : ys = I.marked j k := List.ext_getElem? fun i => by
        rcases Nat.lt_or_ge i j with h | h
        · rw [I.marked_at k h]; exact hx.out i h
        · rw [List.getElem?_eq_none (by have := hO.1; omega), List.getElem?_eq_none (by have := I.marked_len j k; omega)]
      subst hxs
      exact ⟨rfl, hO, ht⟩
theorem heldIntS_any (A : Option Addr) (n c : Nat) (k : Int) (w : World) (ho : AI w A n (I.marked n k)) (hn : n ≤ 1048576) (hk0 : 0 ≤ k) (hk1 : k ≤ 1000) :
    Gv Try.prog 31 #[.slice A n c, .int .i64 k] w (.int .i64 (k + (n : Int))) := by
  unfold Gv
  go_enter Try.func31, Try.ntmps31
  go_wp2
  go_loopw [1, 5] (fun s i wr => ∃ j : Nat, j ≤ n ∧ i = .int .i64 (j : Int) ∧ s = .int .i64 (k + (j : Int)) ∧ Below w.heap.size w wr) (fun _ i _ => n - (intOf i).toNat)
  case atStart => exact ⟨0, by omega, rfl, by simp, Below.refl _ _⟩
  case round =>
    obtain ⟨j, hj, rfl, rfl, hb⟩ := hrel
    obtain ⟨y, rfl⟩ := exists_later hb
    clear hb
    by_cases hlt : j < n
    · obtain ⟨g, off, rfl, hs⟩ := ho.2 (by omega)
      have c0 := hs.2.2 j _ (I.marked_at k hlt)
      simp only [I.mk_] at c0
      have hgs := hs.1
      go_wp2
      go_roundw
      case rel => exact ⟨j + 1, by omega, by go_num, by go_num, (by repeat (with_reducible first | exact Below.refl _ _ | refine bw_later ?_ _ | refine bw_alloc ?_ _ | refine bw_drew ?_ | refine bw_set ?_ (Nat.le_refl _) _ | refine bw_set ?_ ?_ _ | exact Nat.le_refl _ | exact later_size _ _ | refine Nat.le_trans ?_ (later_size _ _) | refine Nat.le_trans ?_ (size_alloc_le _ _) | refine Nat.le_trans ?_ (Nat.le_add_right _ _)))⟩
      case measure => simp [intOf]; omega
    · obtain rfl : j = n := by omega
      go_wp2
      go_ret
      exact ⟨rfl, (by repeat (with_reducible first | exact Below.refl _ _ | refine bw_later ?_ _ | refine bw_alloc ?_ _ | refine bw_drew ?_ | refine bw_set ?_ (Nat.le_refl _) _ | refine bw_set ?_ ?_ _ | exact Nat.le_refl _ | exact later_size _ _ | refine Nat.le_trans ?_ (later_size _ _) | refine Nat.le_trans ?_ (size_alloc_le _ _) | refine Nat.le_trans ?_ (Nat.le_add_right _ _)))⟩
theorem markCabinS_any (lo hi : Nat) (A : Option Addr) (n c : Nat) (k : Int) (xs : List R5) (w : World) (ho : OR5 w lo hi A n xs) (hn : n ≤ 1048576) (hk0 : 0 ≤ k) (hk1 : k ≤ 1000) :
    Calls Try.prog 29 #[.slice A n c, .int .i64 k] w fun e w' => e = .returned (.int .i64 (k + (n : Int) * 5)) ∧ OR5 w' lo hi A n (R5.marked n k) ∧ Tch w w' lo hi := by
  go_enter Try.func29, Try.ntmps29
  go_wp2
  go_loopw [1, 5] (fun s i wr => ∃ (j : Nat) (ys : List R5), j ≤ n ∧ i = .int .i64 (j : Int) ∧ s = .int .i64 (k + (j : Int) * 5) ∧ OR5 wr lo hi A n ys ∧ Tch w wr lo hi ∧ Hid (∀ i, i < j → ys[i]? = some (R5.mk_ (k + (i : Int) * 5)))) (fun _ i _ => n - (intOf i).toNat)
  case atStart => exact ⟨0, xs, by omega, rfl, by simp, ho, Tch.refl _ _ _, fun i hi => absurd hi (by omega)⟩
  case round =>
    obtain ⟨j, ys, hj, rfl, rfl, hO, ht, hx⟩ := hrel
    by_cases hlt : j < n
    · obtain ⟨g, rfl, hlo, hhi, hgs, fz, hc⟩ := hO.cells (by omega)
      obtain ⟨q, hq0⟩ := hO.at_ hlt
      obtain ⟨c0, c1, c2, c3, c4⟩ := hc j q hq0
      have hq := Lib.hid hq0
      clear hq0 hc
      have hkl : j < ys.length := by have := hO.1; omega
      go_wp2
      go_roundw
      case rel =>
        refine ⟨j + 1, _, by omega, by go_num, by go_num, hO.store (k := j) hq.out (R5.mk_ (k + (j : Int) * 5)), by repeat (with_reducible first | exact ht | refine Tch.set ?_ hlo hhi _), fun i hi => ?_⟩
        rcases Nat.lt_or_ge i j with h | h
        · rw [List.getElem?_set, if_neg (by omega)]
          exact hx.out i h
        · obtain rfl : i = j := by omega
          simp [hkl, R5.mk_]
      case measure => simp [intOf]; omega
    · obtain rfl : j = n := by omega
      go_wp2
      go_ret
      have hxs : ys = R5.marked j k := List.ext_getElem? fun i => by
        rcases Nat.lt_or_ge i j with h | h
        · rw [R5.marked_at k h]; exact hx.out i h
        · rw [List.getElem?_eq_none (by have := hO.1; omega), List.getElem?_eq_none (by have := R5.marked_len j k; omega)]
      subst hxs
      exact ⟨rfl, hO, ht⟩
theorem heldCabinS_any (A : Option Addr) (n c : Nat) (k : Int) (w : World) (ho : AR5 w A n (R5.marked n k)) (hn : n ≤ 1048576) (hk0 : 0 ≤ k) (hk1 : k ≤ 1000) :
    Gv Try.prog 34 #[.slice A n c, .int .i64 k] w (.int .i64 (k + (n : Int) * 5)) := by
  unfold Gv
  go_enter Try.func34, Try.ntmps34
  go_wp2
  go_loopw [1, 5] (fun s i wr => ∃ j : Nat, j ≤ n ∧ i = .int .i64 (j : Int) ∧ s = .int .i64 (k + (j : Int) * 5) ∧ Below w.heap.size w wr) (fun _ i _ => n - (intOf i).toNat)
  case atStart => exact ⟨0, by omega, rfl, by simp, Below.refl _ _⟩
  case round =>
    obtain ⟨j, hj, rfl, rfl, hb⟩ := hrel
    obtain ⟨y, rfl⟩ := exists_later hb
    clear hb
    by_cases hlt : j < n
    · obtain ⟨g, off, rfl, hs⟩ := ho.2 (by omega)
      obtain ⟨c0, c1, c2, c3, c4⟩ := hs.2.2 j _ (R5.marked_at k hlt)
      simp only [R5.mk_] at c0 c1 c2 c3 c4
      have hgs := hs.1
      go_wp2
      go_roundw
      case rel => exact ⟨j + 1, by omega, by go_num, by go_num, (by repeat (with_reducible first | exact Below.refl _ _ | refine bw_later ?_ _ | refine bw_alloc ?_ _ | refine bw_drew ?_ | refine bw_set ?_ (Nat.le_refl _) _ | refine bw_set ?_ ?_ _ | exact Nat.le_refl _ | exact later_size _ _ | refine Nat.le_trans ?_ (later_size _ _) | refine Nat.le_trans ?_ (size_alloc_le _ _) | refine Nat.le_trans ?_ (Nat.le_add_right _ _)))⟩
      case measure => simp [intOf]; omega
    · obtain rfl : j = n := by omega
      go_wp2
      go_ret
      exact ⟨rfl, (by repeat (with_reducible first | exact Below.refl _ _ | refine bw_later ?_ _ | refine bw_alloc ?_ _ | refine bw_drew ?_ | refine bw_set ?_ (Nat.le_refl _) _ | refine bw_set ?_ ?_ _ | exact Nat.le_refl _ | exact later_size _ _ | refine Nat.le_trans ?_ (later_size _ _) | refine Nat.le_trans ?_ (size_alloc_le _ _) | refine Nat.le_trans ?_ (Nat.le_add_right _ _)))⟩
theorem eqIntS_any (A A' : Option Addr) (n m c d : Nat) (xs ys : List Int) (w : World) (ha : AI w A n xs) (hb : AI w A' m ys) (hn : n ≤ 1048576) (hm : m ≤ 1048576) :
    Gv Try.prog 28 #[.slice A n c, .slice A' m d] w (.bool (decide (xs = ys))) := by
  unfold Gv
  have hl := Lib.hid ha.1
  have hl' := Lib.hid hb.1
  by_cases hnm : n = m
  · subst hnm
    go_enter Try.func28, Try.ntmps28
    go_wp2
    go_loopw [5] (fun i wr => ∃ k : Nat, Below w.heap.size w wr ∧ k ≤ n ∧ i = .int .i64 (k : Int) ∧ Hid (∀ j, j < k → xs[j]? = ys[j]?)) (fun i _ => n - (intOf i).toNat)
    case atStart => exact ⟨0, Below.refl _ _, by omega, rfl, fun j hj => absurd hj (by omega)⟩
    case round =>
      obtain ⟨k, hbw, hk, rfl, hx⟩ := hrel
      obtain ⟨y, rfl⟩ := exists_later hbw
      clear hbw
      by_cases hlt : k < n
      · obtain ⟨b, off, rfl, hs⟩ := ha.2 (by omega)
        obtain ⟨b', off', rfl, hs'⟩ := hb.2 (by omega)
        obtain ⟨r, hr0⟩ := hs.at_ hlt
        obtain ⟨q, hq0⟩ := hs'.at_ hlt
        have c0 := hs.2.2 k r hr0
        have d0 := hs'.2.2 k q hq0
        have hbl := hs.1
        have hbl' := hs'.1
        have hr := Lib.hid hr0
        have hq := Lib.hid hq0
        clear hr0 hq0
        by_cases hrq : r = q
        · have Hrq := Lib.hid hrq
          have hd : (r != q) = false := by simp [hrq]
          clear hrq
          go_wp2_with ((with_reducible refine wp_region_later (by kernel_rfl) (by kernel_rfl) ?_); (repeat (go_big_quiet_step (fail))); refine wpQuiet_nil ?_; rintro _ ⟨xr, rfl⟩)
          go_roundw
          case rel => exact ⟨k + 1, (by repeat (with_reducible first | exact Below.refl _ _ | refine bw_later ?_ _ | refine bw_alloc ?_ _ | refine bw_drew ?_ | refine bw_set ?_ (Nat.le_refl _) _ | refine bw_set ?_ ?_ _ | exact Nat.le_refl _ | exact later_size _ _ | refine Nat.le_trans ?_ (later_size _ _) | refine Nat.le_trans ?_ (size_alloc_le _ _) | refine Nat.le_trans ?_ (Nat.le_add_right _ _))), by omega, by go_num, fun j hj => by
            rcases Nat.lt_or_ge j k with h | h
            · exact hx.out j h
            · obtain rfl : j = k := by omega
              rw [hr.out, hq.out, Hrq.out]⟩
          case measure => simp [intOf]; omega
        · have Hrq := Lib.hid hrq
          have hd : (r != q) = true := by simp [hrq]
          clear hrq
          go_wp2_with ((with_reducible refine wp_region_later (by kernel_rfl) (by kernel_rfl) ?_); (repeat (go_big_quiet_step (fail))); refine wpQuiet_nil ?_; rintro _ ⟨xr, rfl⟩)
          go_ret
          exact ⟨ret_bool (by
            rw [eq_comm, decide_eq_false_iff_not]
            intro h
            subst h
            have := hr.out.symm.trans hq.out
            exact Hrq.out (by simpa using this)), (by repeat (with_reducible first | exact Below.refl _ _ | refine bw_later ?_ _ | refine bw_alloc ?_ _ | refine bw_drew ?_ | refine bw_set ?_ (Nat.le_refl _) _ | refine bw_set ?_ ?_ _ | exact Nat.le_refl _ | exact later_size _ _ | refine Nat.le_trans ?_ (later_size _ _) | refine Nat.le_trans ?_ (size_alloc_le _ _) | refine Nat.le_trans ?_ (Nat.le_add_right _ _)))⟩
      · obtain rfl : k = n := by omega
        go_wp2
        go_ret
        exact ⟨ret_bool (by
          rw [eq_comm, decide_eq_true_iff]
          exact List.ext_getElem? fun j => by
            rcases Nat.lt_or_ge j k with h | h
            · exact hx.out j h
            · rw [List.getElem?_eq_none (by have := hl.out; omega), List.getElem?_eq_none (by have := hl'.out; omega)]), (by repeat (with_reducible first | exact Below.refl _ _ | refine bw_later ?_ _ | refine bw_alloc ?_ _ | refine bw_drew ?_ | refine bw_set ?_ (Nat.le_refl _) _ | refine bw_set ?_ ?_ _ | exact Nat.le_refl _ | exact later_size _ _ | refine Nat.le_trans ?_ (later_size _ _) | refine Nat.le_trans ?_ (size_alloc_le _ _) | refine Nat.le_trans ?_ (Nat.le_add_right _ _)))⟩
  · have hne : ((n : Int) == (m : Int)) = false := by simp; omega
    go_enter Try.func28, Try.ntmps28
    go_wp2
    go_ret
    exact ⟨ret_bool (by
      rw [eq_comm, decide_eq_false_iff_not]
      intro h
      subst h
      exact hnm (hl.out.symm.trans hl'.out)), (by repeat (with_reducible first | exact Below.refl _ _ | refine bw_later ?_ _ | refine bw_alloc ?_ _ | refine bw_drew ?_ | refine bw_set ?_ (Nat.le_refl _) _ | refine bw_set ?_ ?_ _ | exact Nat.le_refl _ | exact later_size _ _ | refine Nat.le_trans ?_ (later_size _ _) | refine Nat.le_trans ?_ (size_alloc_le _ _) | refine Nat.le_trans ?_ (Nat.le_add_right _ _)))⟩
end Go.Proofs.Ytnemamokjikdeaa
