/- The laws' marks: a slice is filled with a rising count; later it is asked whether it still holds it. -/
import Derived.Test.YteakffedlojcmaaDoorRows
import Derived.Test.YteakffedlojcmaaDoorOwn
namespace Go.Proofs.YteakffedlojcmaaDoor
open Go.RowKit
theorem markSupportS_any (lo hi : Nat) (A : Option Addr) (n c : Nat) (k : Int) (xs : List Sup) (w : World) (ho : OSup w lo hi A n xs) (hn : n ≤ 1048576) (hk0 : 0 ≤ k) (hk1 : k ≤ 1000) :
    Calls Tryd.prog 30 #[.slice A n c, .int .i64 k] w fun e w' => e = .returned (.int .i64 (k + (n : Int) * 3)) ∧ OSup w' lo hi A n (Sup.marked n k) ∧ Tch w w' lo hi := by
  go_enter Tryd.func30, Tryd.ntmps30
  go_wp2
  go_loopw [1, 5] (fun s i wr => ∃ (j : Nat) (ys : List Sup), j ≤ n ∧ i = .int .i64 (j : Int) ∧ s = .int .i64 (k + (j : Int) * 3) ∧ OSup wr lo hi A n ys ∧ Tch w wr lo hi ∧ Hid (∀ i, i < j → ys[i]? = some (Sup.mk_ (k + (i : Int) * 3)))) (fun _ i _ => n - (intOf i).toNat)
  case atStart => exact ⟨0, xs, by omega, rfl, by simp, ho, Tch.refl _ _ _, fun i hi => absurd hi (by omega)⟩
  case round =>
    obtain ⟨j, ys, hj, rfl, rfl, hO, ht, hx⟩ := hrel
    by_cases hlt : j < n
    · obtain ⟨g, rfl, hlo, hhi, hgs, fz, hc⟩ := hO.cells (by omega)
      obtain ⟨q, hq0⟩ := hO.at_ hlt
      obtain ⟨c0, c1, c2⟩ := hc j q hq0
      have hq := Lib.hid hq0
      clear hq0 hc
      have hkl : j < ys.length := by have := hO.1; omega
      go_wp2
      go_roundw
      case rel =>
        refine ⟨j + 1, _, by omega, by go_num, by go_num, hO.store (k := j) hq.out (Sup.mk_ (k + (j : Int) * 3)), by repeat (with_reducible first | exact ht | refine Tch.set ?_ hlo hhi _), fun i hi => ?_⟩
        rcases Nat.lt_or_ge i j with h | h
        · rw [List.getElem?_set, if_neg (by omega)]
          exact hx.out i h
        · obtain rfl : i = j := by omega
          simp [hkl, Sup.mk_]
      case measure => simp [intOf]; omega
    · obtain rfl : j = n := by omega
      go_wp2
      go_ret
      have hxs : ys = Sup.marked j k := List.ext_getElem? fun i => by
        rcases Nat.lt_or_ge i j with h | h
        · rw [Sup.marked_at k h]; exact hx.out i h
        · rw [List.getElem?_eq_none (by have := hO.1; omega), List.getElem?_eq_none (by have := Sup.marked_len j k; omega)]
      subst hxs
      exact ⟨rfl, hO, ht⟩
theorem heldSupportS_any (A : Option Addr) (n c : Nat) (k : Int) (w : World) (ho : ASup w A n (Sup.marked n k)) (hn : n ≤ 1048576) (hk0 : 0 ≤ k) (hk1 : k ≤ 1000) :
    Gv Tryd.prog 31 #[.slice A n c, .int .i64 k] w (.int .i64 (k + (n : Int) * 3)) := by
  unfold Gv
  go_enter Tryd.func31, Tryd.ntmps31
  go_wp2
  go_loopw [1, 5] (fun s i wr => ∃ j : Nat, j ≤ n ∧ i = .int .i64 (j : Int) ∧ s = .int .i64 (k + (j : Int) * 3) ∧ Below w.heap.size w wr) (fun _ i _ => n - (intOf i).toNat)
  case atStart => exact ⟨0, by omega, rfl, by simp, Below.refl _ _⟩
  case round =>
    obtain ⟨j, hj, rfl, rfl, hb⟩ := hrel
    obtain ⟨y, rfl⟩ := exists_later hb
    clear hb
    by_cases hlt : j < n
    · obtain ⟨g, off, rfl, hs⟩ := ho.2 (by omega)
      obtain ⟨c0, c1, c2⟩ := hs.2.2 j _ (Sup.marked_at k hlt)
      simp only [Sup.mk_] at c0 c1 c2
      have hgs := hs.1
      go_wp2
      go_roundw
      case rel => exact ⟨j + 1, by omega, by go_num, by go_num, (by repeat (with_reducible first | exact hbD | exact Below.refl _ _ | refine bw_later ?_ _ | refine bw_alloc ?_ _ | refine bw_drew ?_ | refine bw_set ?_ (Nat.le_refl _) _ | refine bw_set ?_ ?_ _ | exact Nat.le_refl _ | exact later_size _ _ | refine Nat.le_trans ?_ (later_size _ _) | refine Nat.le_trans ?_ (size_alloc_le _ _) | refine Nat.le_trans ?_ (Nat.le_add_right _ _)))⟩
      case measure => simp [intOf]; omega
    · obtain rfl : j = n := by omega
      go_wp2
      go_ret
      exact ⟨rfl, (by repeat (with_reducible first | exact hbD | exact Below.refl _ _ | refine bw_later ?_ _ | refine bw_alloc ?_ _ | refine bw_drew ?_ | refine bw_set ?_ (Nat.le_refl _) _ | refine bw_set ?_ ?_ _ | exact Nat.le_refl _ | exact later_size _ _ | refine Nat.le_trans ?_ (later_size _ _) | refine Nat.le_trans ?_ (size_alloc_le _ _) | refine Nat.le_trans ?_ (Nat.le_add_right _ _)))⟩
end Go.Proofs.YteakffedlojcmaaDoor
