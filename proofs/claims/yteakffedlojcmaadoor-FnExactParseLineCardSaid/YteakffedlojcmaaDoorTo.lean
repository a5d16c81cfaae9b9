/- The laws' helpers over structs and slices of structs: copies, sizes, comparisons. -/
import Derived.Test.YteakffedlojcmaaDoorRows
import Derived.Test.YteakffedlojcmaaDoorStructs
namespace Go.Proofs.YteakffedlojcmaaDoor
open Go.RowKit
theorem toSupport_any (r : Sup) (w : World) : Gv Tryd.prog 48 #[r.v] w r.v := by
  unfold Gv Sup.v
  go_enter Tryd.func48, Tryd.ntmps48
  go_wp2
  exact bodyPost_ret (by simp [results, Tryd.results48, go_sem]) rfl ⟨rfl, (by repeat (with_reducible first | exact hbD | exact Below.refl _ _ | refine bw_later ?_ _ | refine bw_alloc ?_ _ | refine bw_drew ?_ | refine bw_set ?_ (Nat.le_refl _) _ | refine bw_set ?_ ?_ _ | exact Nat.le_refl _ | exact later_size _ _ | refine Nat.le_trans ?_ (later_size _ _) | refine Nat.le_trans ?_ (size_alloc_le _ _) | refine Nat.le_trans ?_ (Nat.le_add_right _ _)))⟩
theorem szSupport_any (A : Option Addr) (n c : Nat) (l : Int) (hn : n ≤ 9223372036854775807) (h0 : 0 ≤ l) (h1 : l ≤ 1048576) (w : World) : Gv Tryd.prog 23 #[.slice A n c, .int .i64 l] w (.int .i64 (szF n l)) := by
  unfold Gv szF
  go_enter Tryd.func23, Tryd.ntmps23
  go_wp2
  all_goals (go_ret; exact ⟨ret_int (by first | rfl | (rw [if_pos (by omega)]; done) | (rw [if_neg (by omega)]; done)), (by repeat (with_reducible first | exact hbD | exact Below.refl _ _ | refine bw_later ?_ _ | refine bw_alloc ?_ _ | refine bw_drew ?_ | refine bw_set ?_ (Nat.le_refl _) _ | refine bw_set ?_ ?_ _ | exact Nat.le_refl _ | exact later_size _ _ | refine Nat.le_trans ?_ (later_size _ _) | refine Nat.le_trans ?_ (size_alloc_le _ _) | refine Nat.le_trans ?_ (Nat.le_add_right _ _)))⟩)
theorem infoSupport : (Tryd.prog.info? 61).map (fun i => (i.zero, i.size, i.bytes)) = some (some (.agg #[.int .i64 0, .int .i64 0, .bool false]), 3, 24) := by kernel_rfl
theorem toSupportS_any (A : Option Addr) (n c : Nat) (xs : List Sup) (w : World) (ha : ASup w A n xs) (hn : n ≤ 1048576) :
    Calls Tryd.prog 25 #[.slice A n c] w fun e w' => ∃ g, e = .returned (.slice (some ⟨g, 0, none⟩) n n) ∧ w.heap.size ≤ g ∧ BSup w' g 61 n xs ∧ Below w.heap.size w w' := by
  obtain ⟨i0, hi, hz0, hz1, hz2⟩ := info_parts infoSupport
  have hmk : ∀ W : World, (Instr.makeSlice 38 (.int .i64 (n : Int)) (.int .i64 (n : Int))).run Tryd.prog W = .ok (.slice (some ⟨W.heap.size, 0, none⟩) n n) (W.alloc (.cells (madeCells #[.int .i64 0, .int .i64 0, .bool false] (n * 3)) 61)) := fun W => by
    have := run_make_rowN (P := Tryd.prog) 38 61 i0 _ Tryd.underlying38 hi hz0 .i64 .i64 n n (Nat.le_refl _) (by rw [hz2]; omega) (by omega) W
    rw [hz1] at this
    exact this
  clear hi hz0 hz1 hz2
  have hl := Lib.hid ha.1
  go_enter Tryd.func25, Tryd.ntmps25
  go_wp2
  clear hmk
  go_loopw [4] (fun i wr => ∃ (k : Nat) (ys : List Sup), Below w.heap.size w wr ∧ k ≤ n ∧ i = .int .i64 (k : Int) ∧ BSup wr w.heap.size 61 n ys ∧ Hid (∀ j, j < k → ys[j]? = xs[j]?)) (fun i _ => n - (intOf i).toNat)
  case atStart => exact ⟨0, List.replicate n Sup.zero, bw_alloc (Below.refl _ _) _, by omega, rfl, BSup.made w 61 n, fun j hj => absurd hj (by omega)⟩
  case round =>
    obtain ⟨k, ys, hb, hk, rfl, hB, hx⟩ := hrel
    by_cases hlt : k < n
    · obtain ⟨b, off, rfl, hs⟩ := ha.2 (by omega)
      obtain ⟨r, hr0⟩ := hs.at_ hlt
      obtain ⟨c0, c1, c2⟩ := hs.2.2 k r hr0
      have hbl := hs.1
      have hr := Lib.hid hr0
      clear hr0
      obtain ⟨q, hq0⟩ := hB.reads.at_ hlt
      have hq := Lib.hid hq0
      clear hq0
      have hkl : k < ys.length := by have := hB.len; omega
      obtain ⟨y, rfl⟩ := exists_later hb
      clear hb
      go_wp2_with (go_at_call 48; refine (toSupport_any r _).on ?_; intro x; unfold Sup.v; have hB1 := hB.later x; have fz := hB1.free; obtain ⟨e0, e1, e2⟩ := hB1.reads.2.2 k q hq.out; simp only [Nat.zero_add] at e0 e1 e2)
      go_roundw
      case rel =>
        refine ⟨k + 1, _, by repeat (with_reducible first | exact Below.refl _ _ | refine bw_later ?_ _ | refine bw_alloc ?_ _ | refine bw_set ?_ (Nat.le_refl _) _), by omega, by go_num, hB1.store (k := k) hq.out r, fun j hj => ?_⟩
        rcases Nat.lt_or_ge j k with h | h
        · rw [List.getElem?_set, if_neg (by omega)]
          exact hx.out j h
        · obtain rfl : j = k := by omega
          rw [hr.out]
          simp [hkl]
      case measure => simp [intOf]; omega
    · obtain rfl : k = n := by omega
      go_wp2
      go_ret
      have hxs : ys = xs := List.ext_getElem? fun j => by
        rcases Nat.lt_or_ge j k with h | h
        · exact hx.out j h
        · rw [List.getElem?_eq_none (by have := hB.len; omega), List.getElem?_eq_none (by have := hl.out; omega)]
      subst hxs
      exact ⟨_, rfl, Nat.le_refl _, hB, hb⟩
theorem eqSupport_any (r q : Sup) (w : World) : Gv Tryd.prog 51 #[r.v, q.v] w (.bool (decide (r = q))) := by
  unfold Gv Sup.v
  go_enter Tryd.func51, Tryd.ntmps51
  go_wp2
  all_goals (go_ret; exact ⟨ret_bool (by go_tidy; simp_all [Sup.eq_iff]), (by repeat (with_reducible first | exact hbD | exact Below.refl _ _ | refine bw_later ?_ _ | refine bw_alloc ?_ _ | refine bw_drew ?_ | refine bw_set ?_ (Nat.le_refl _) _ | refine bw_set ?_ ?_ _ | exact Nat.le_refl _ | exact later_size _ _ | refine Nat.le_trans ?_ (later_size _ _) | refine Nat.le_trans ?_ (size_alloc_le _ _) | refine Nat.le_trans ?_ (Nat.le_add_right _ _)))⟩)
theorem eqSupportS_any (A A' : Option Addr) (n m c d : Nat) (xs ys : List Sup) (w : World) (ha : ASup w A n xs) (hb : ASup w A' m ys) (hn : n ≤ 1048576) (hm : m ≤ 1048576) :
    Gv Tryd.prog 27 #[.slice A n c, .slice A' m d] w (.bool (decide (xs = ys))) := by
  unfold Gv
  have hl := Lib.hid ha.1
  have hl' := Lib.hid hb.1
  by_cases hnm : n = m
  · subst hnm
    go_enter Tryd.func27, Tryd.ntmps27
    go_wp2
    go_loopw [5] (fun i wr => ∃ k : Nat, Below w.heap.size w wr ∧ k ≤ n ∧ i = .int .i64 (k : Int) ∧ Hid (∀ j, j < k → xs[j]? = ys[j]?)) (fun i _ => n - (intOf i).toNat)
    case atStart => exact ⟨0, Below.refl _ _, by omega, rfl, fun j hj => absurd hj (by omega)⟩
    case round =>
      obtain ⟨k, hbw, hk, rfl, hx⟩ := hrel
      obtain ⟨y, rfl⟩ := exists_later hbw
      clear hbw
      by_cases hlt : k < n
      · obtain ⟨b, off, rfl, hs⟩ := ha.2 (by omega)
        obtain ⟨b', off', rfl, hs'⟩ := hb.2 (by omega)
        obtain ⟨r, hr0⟩ := hs.at_ hlt
        obtain ⟨q, hq0⟩ := hs'.at_ hlt
        obtain ⟨c0, c1, c2⟩ := hs.2.2 k r hr0
        obtain ⟨d0, d1, d2⟩ := hs'.2.2 k q hq0
        have hbl := hs.1
        have hbl' := hs'.1
        have hr := Lib.hid hr0
        have hq := Lib.hid hq0
        clear hr0 hq0
        by_cases hrq : r = q
        · have Hrq := Lib.hid hrq
          have hd : decide (r = q) = true := by simp [hrq]
          clear hrq
          go_wp2_with ((with_reducible refine wp_region_later (by kernel_rfl) (by kernel_rfl) ?_); (repeat (go_big_quiet_step ((go_at_call 51; exact (eqSupport_any r q _).quiet)))); refine wpQuiet_nil ?_; rintro _ ⟨xr, rfl⟩)
          go_roundw
          case rel => exact ⟨k + 1, (by repeat (with_reducible first | exact hbD | exact Below.refl _ _ | refine bw_later ?_ _ | refine bw_alloc ?_ _ | refine bw_drew ?_ | refine bw_set ?_ (Nat.le_refl _) _ | refine bw_set ?_ ?_ _ | exact Nat.le_refl _ | exact later_size _ _ | refine Nat.le_trans ?_ (later_size _ _) | refine Nat.le_trans ?_ (size_alloc_le _ _) | refine Nat.le_trans ?_ (Nat.le_add_right _ _))), by omega, by go_num, fun j hj => by
            rcases Nat.lt_or_ge j k with h | h
            · exact hx.out j h
            · obtain rfl : j = k := by omega
              rw [hr.out, hq.out, Hrq.out]⟩
          case measure => simp [intOf]; omega
        · have Hrq := Lib.hid hrq
          have hd : decide (r = q) = false := by simp [hrq]
          clear hrq
          go_wp2_with ((with_reducible refine wp_region_later (by kernel_rfl) (by kernel_rfl) ?_); (repeat (go_big_quiet_step ((go_at_call 51; exact (eqSupport_any r q _).quiet)))); refine wpQuiet_nil ?_; rintro _ ⟨xr, rfl⟩)
          go_ret
          exact ⟨ret_bool (by
            rw [eq_comm, decide_eq_false_iff_not]
            intro h
            subst h
            have := hr.out.symm.trans hq.out
            exact Hrq.out (by simpa using this)), (by repeat (with_reducible first | exact hbD | exact Below.refl _ _ | refine bw_later ?_ _ | refine bw_alloc ?_ _ | refine bw_drew ?_ | refine bw_set ?_ (Nat.le_refl _) _ | refine bw_set ?_ ?_ _ | exact Nat.le_refl _ | exact later_size _ _ | refine Nat.le_trans ?_ (later_size _ _) | refine Nat.le_trans ?_ (size_alloc_le _ _) | refine Nat.le_trans ?_ (Nat.le_add_right _ _)))⟩
      · obtain rfl : k = n := by omega
        go_wp2
        go_ret
        exact ⟨ret_bool (by
          rw [eq_comm, decide_eq_true_iff]
          exact List.ext_getElem? fun j => by
            rcases Nat.lt_or_ge j k with h | h
            · exact hx.out j h
            · rw [List.getElem?_eq_none (by have := hl.out; omega), List.getElem?_eq_none (by have := hl'.out; omega)]), (by repeat (with_reducible first | exact hbD | exact Below.refl _ _ | refine bw_later ?_ _ | refine bw_alloc ?_ _ | refine bw_drew ?_ | refine bw_set ?_ (Nat.le_refl _) _ | refine bw_set ?_ ?_ _ | exact Nat.le_refl _ | exact later_size _ _ | refine Nat.le_trans ?_ (later_size _ _) | refine Nat.le_trans ?_ (size_alloc_le _ _) | refine Nat.le_trans ?_ (Nat.le_add_right _ _)))⟩
  · have hne : ((n : Int) == (m : Int)) = false := by simp; omega
    go_enter Tryd.func27, Tryd.ntmps27
    go_wp2
    go_ret
    exact ⟨ret_bool (by
      rw [eq_comm, decide_eq_false_iff_not]
      intro h
      subst h
      exact hnm (hl.out.symm.trans hl'.out)), (by repeat (with_reducible first | exact hbD | exact Below.refl _ _ | refine bw_later ?_ _ | refine bw_alloc ?_ _ | refine bw_drew ?_ | refine bw_set ?_ (Nat.le_refl _) _ | refine bw_set ?_ ?_ _ | exact Nat.le_refl _ | exact later_size _ _ | refine Nat.le_trans ?_ (later_size _ _) | refine Nat.le_trans ?_ (size_alloc_le _ _) | refine Nat.le_trans ?_ (Nat.le_add_right _ _)))⟩
end Go.Proofs.YteakffedlojcmaaDoor
