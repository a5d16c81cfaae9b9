/- Texts joined: the plain side, the reference, the program, the law. -/
import Derived.Test.YteakffedlojcmaaTextsArg
import Derived.Test.YteakffedlojcmaaContains
import Derived.Test.YteakffedlojcmaaSplitL
import Derived.Test.YteakffedlojcmaaShelfJoin
import Derived.Lib.Join
namespace Go.Proofs.Yteakffedlojcmaa
open Go.RowKit
def joinTo (xs : List ByteArray) (sep : ByteArray) (k : Nat) : ByteArray := mkB (Lib.join ((xs.take k).map (·.data.toList)) sep.data.toList)
theorem join_snoc (l : List (List UInt8)) (x sep : List UInt8) : Lib.join (l ++ [x]) sep = (if l = [] then x else Lib.join l sep ++ sep ++ x) := by
  cases l with
  | nil => simp [Lib.join_one]
  | cons y r =>
    rw [List.cons_append, Lib.join_cons, if_neg (by simp), Lib.join_cons]
    simp [Lib.joinTail]
theorem mkB_app (a b : List UInt8) : mkB (a ++ b) = mkB a ++ mkB b := by
  simp [mkB, ByteArray.ext_iff, ByteArray.data_append]
theorem nil_app (a : ByteArray) : (⟨#[]⟩ : ByteArray) ++ a = a := by simp [ByteArray.ext_iff, ByteArray.data_append]
theorem joinTo_zero (xs : List ByteArray) (sep : ByteArray) : joinTo xs sep 0 = ⟨#[]⟩ := rfl
theorem joinTo_one {xs : List ByteArray} {sep r : ByteArray} (hr : xs[0]? = some r) : joinTo xs sep 1 = r := by
  unfold joinTo
  rw [List.take_add_one, hr]
  simp [Lib.join_one, mkB_of]
theorem joinTo_step {xs : List ByteArray} {sep r : ByteArray} {k : Nat} (hr : xs[k + 1]? = some r) : joinTo xs sep (k + 1 + 1) = joinTo xs sep (k + 1) ++ sep ++ r := by
  have hk : k + 1 < xs.length := (List.getElem?_eq_some_iff.1 hr).1
  unfold joinTo
  rw [List.take_add_one (i := k + 1), hr]
  simp only [Option.toList_some, List.map_append, List.map_cons, List.map_nil]
  rw [join_snoc]
  have hne : ¬ ((xs.take (k + 1)).map (·.data.toList) = []) := fun e => by
    have h1 := congrArg List.length e
    rw [List.length_map, List.length_take] at h1
    rw [List.length_nil] at h1
    omega
  rw [if_neg hne, mkB_app, mkB_app, mkB_of, mkB_of]
theorem joinTo_size {xs : List ByteArray} {sep : ByteArray} (h1 : sep.size = 1) : ∀ k, k + 1 ≤ xs.length → (joinTo xs sep (k + 1)).size = sumL xs (k + 1) + k
  | 0, hk => by
    have hr : xs[0]? = some xs[0] := List.getElem?_eq_getElem (by omega)
    rw [joinTo_one hr, sumL_succ hr, sumL_zero]
    omega
  | k + 1, hk => by
    have ih := joinTo_size (xs := xs) h1 k (by omega)
    have hr : xs[k + 1]? = some xs[k + 1] := List.getElem?_eq_getElem (by omega)
    rw [joinTo_step hr, ByteArray.size_append, ByteArray.size_append, ih, sumL_succ hr, h1]
    omega
theorem one_byte {s : ByteArray} (h : s.size = 1) : ∃ c, s = ⟨#[c]⟩ ∧ s = mkB [c] := by
  have hl : s.data.toList.length = 1 := by simpa using h
  match hd : s.data.toList, hl with
  | [c], _ =>
    have e : s = mkB [c] := by rw [← hd, mkB_of]
    exact ⟨c, e, e⟩
def noneB (c : UInt8) (xs : List ByteArray) : Bool := xs.all fun x => !hasB x c
theorem noneB_f {c : UInt8} {xs : List ByteArray} {k : Nat} {r : ByteArray} (hr : xs[k]? = some r) (h : hasB r c = true) : noneB c xs = false := by
  unfold noneB
  rw [List.all_eq_false]
  exact ⟨r, List.mem_of_getElem? hr, by simp [h]⟩
theorem noneB_t {c : UInt8} {xs : List ByteArray} (h : ∀ (j : Nat) (r : ByteArray), xs[j]? = some r → hasB r c = false) : noneB c xs = true := by
  unfold noneB
  rw [List.all_eq_true]
  intro x hx
  obtain ⟨j, hj⟩ := List.getElem?_of_mem hx
  simp [h j x hj]
def joinF (xs : List ByteArray) (sep : ByteArray) : ByteArray × Bool :=
  if decide (sep.size = 1) && (decide (0 < xs.length) && (noneB (sep.data.toList.getD 0 0) xs && decide ((joinTo xs sep xs.length).size ≤ 4000))) then (joinTo xs sep xs.length, true) else (⟨#[]⟩, false)
theorem joinT_any (g off cap n : Nat) (ps : List ByteArray) (sep : ByteArray) (w : World) (hs : ST w g off n ps) (hc : n ≤ cap) (hN : n ≤ 1048576) (hl : (Lib.join (ps.map (·.data.toList)) sep.data.toList).length ≤ 140737488355328) :
    Gv Try.prog 20 #[.slice (some ⟨g, off, none⟩) n cap, .string sep] w (.string (mkB (Lib.join (ps.map (·.data.toList)) sep.data.toList))) := by
  obtain ⟨hg, rfl, hcell⟩ := hs
  exact Try.strings_Join g off cap ps sep w (fun j x hj => hcell j x hj) hg (by omega) hc hl
set_option maxHeartbeats 1000000 in
theorem s_Join_any (A : Option Addr) (n cp : Nat) (xs : List ByteArray) (sep : ByteArray) (w : World) (ha : AT w A n xs) (hn : n ≤ 1048576) (hz : sumL xs n ≤ 1048576) : Gv Try.prog 12 #[.slice A n cp, .string sep] w (.tuple #[.string (joinF xs sep).1, .bool (joinF xs sep).2]) := by
  unfold Gv
  by_cases h1 : sep.size = 1
  rotate_left
  · have hfin := Lib.hid (show joinF xs sep = (⟨#[]⟩, false) by simp [joinF, h1])
    have h4 : ((sep.size : Int) == 1) = false := by rw [beq_eq_false_iff_ne]; omega
    cases h5 : ((n : Int) == 0)
    all_goals
      go_enter Try.func12, Try.ntmps12
      go_wp2_with fail
      all_goals (go_ret2; exact ⟨by rw [hfin.out]; try rfl, (by repeat (with_reducible first | exact Below.refl _ _ | refine bw_later ?_ _ | refine bw_alloc ?_ _ | refine bw_drew ?_ | refine bw_set ?_ (Nat.le_refl _) _ | refine bw_set ?_ ?_ _ | exact Nat.le_refl _ | exact later_size _ _ | refine Nat.le_trans ?_ (later_size _ _) | refine Nat.le_trans ?_ (size_alloc_le _ _) | refine Nat.le_trans ?_ (Nat.le_add_right _ _)))⟩)
  obtain ⟨c, rfl, e⟩ := one_byte h1
  have hl := Lib.hid ha.1
  by_cases h0 : n = 0
  · subst h0
    have hfin := Lib.hid (show joinF xs ⟨#[c]⟩ = (⟨#[]⟩, false) by simp [joinF, ha.1])
    go_enter Try.func12, Try.ntmps12
    go_wp2_with fail
    all_goals (go_ret2; exact ⟨by rw [hfin.out]; try rfl, (by repeat (with_reducible first | exact Below.refl _ _ | refine bw_later ?_ _ | refine bw_alloc ?_ _ | refine bw_drew ?_ | refine bw_set ?_ (Nat.le_refl _) _ | refine bw_set ?_ ?_ _ | exact Nat.le_refl _ | exact later_size _ _ | refine Nat.le_trans ?_ (later_size _ _) | refine Nat.le_trans ?_ (size_alloc_le _ _) | refine Nat.le_trans ?_ (Nat.le_add_right _ _)))⟩)
  have h5 : ((n : Int) == 0) = false := by rw [beq_eq_false_iff_ne]; omega
  obtain ⟨g, off, rfl, hs⟩ := ha.2 (by omega)
  have hg := hs.1
  have HS1 := Lib.hid h1
  have hbad : Hid (∀ (k : Nat) (r : ByteArray), xs[k]? = some r → hasB r c = true → joinF xs ⟨#[c]⟩ = (⟨#[]⟩, false)) := Lib.hid fun k r hr h => by
    have : noneB c xs = false := noneB_f hr h
    have e2 : ((⟨#[c]⟩ : ByteArray).data.toList.getD 0 0) = c := rfl
    simp only [joinF, e2, this, Bool.false_and, Bool.and_false, Bool.false_eq_true, if_false]
  have hsz : Hid (∀ k, k + 1 ≤ n → (joinTo xs ⟨#[c]⟩ (k + 1)).size = sumL xs (k + 1) + k) := Lib.hid fun k hk => joinTo_size h1 k (by rw [hl.out]; exact hk)
  have hbig : Hid (4000 < (joinTo xs ⟨#[c]⟩ n).size → joinF xs ⟨#[c]⟩ = (⟨#[]⟩, false)) := Lib.hid fun h => by
    have : decide ((joinTo xs ⟨#[c]⟩ xs.length).size ≤ 4000) = false := by rw [hl.out]; simp; omega
    simp only [joinF, this, Bool.and_false, Bool.false_eq_true, if_false]
  have hgood : Hid ((∀ (j : Nat) (r : ByteArray), xs[j]? = some r → hasB r c = false) → (joinTo xs ⟨#[c]⟩ n).size ≤ 4000 → joinF xs ⟨#[c]⟩ = (joinTo xs ⟨#[c]⟩ n, true)) := Lib.hid fun h h2 => by
    have e1 : noneB c xs = true := noneB_t h
    have e2 : ((⟨#[c]⟩ : ByteArray).data.toList.getD 0 0) = c := rfl
    have e3 : decide ((joinTo xs ⟨#[c]⟩ xs.length).size ≤ 4000) = true := by rw [hl.out]; simpa using h2
    have e4 : decide (0 < xs.length) = true := by rw [hl.out]; simp; omega
    have e5 : decide ((⟨#[c]⟩ : ByteArray).size = 1) = true := by simpa using h1
    rw [hl.out] at e3 e4
    simp only [joinF, e1, e2, e5, hl.out, e3, e4, Bool.and_true, if_true]
  have HZ := Lib.hid hz
  clear e h1 hz
  go_enter Try.func12, Try.ntmps12
  go_wp2
  go_loopw [6, 7] (fun t i wr => ∃ (k : Nat) (T : ByteArray), Below w.heap.size w wr ∧ k ≤ n ∧ i = .int .i64 (k : Int) ∧ t = .string T ∧ T.size ≤ 4000 ∧ Hid (T = joinTo xs ⟨#[c]⟩ k) ∧ Hid (∀ j : Nat, j < k → ∀ r : ByteArray, xs[j]? = some r → hasB r c = false)) (fun _ i _ => n - (intOf i).toNat)
  case atStart => exact ⟨0, _, (by repeat (with_reducible first | exact Below.refl _ _ | refine bw_later ?_ _ | refine bw_alloc ?_ _ | refine bw_drew ?_ | refine bw_set ?_ (Nat.le_refl _) _ | refine bw_set ?_ ?_ _ | exact Nat.le_refl _ | exact later_size _ _ | refine Nat.le_trans ?_ (later_size _ _) | refine Nat.le_trans ?_ (size_alloc_le _ _) | refine Nat.le_trans ?_ (Nat.le_add_right _ _))), by omega, rfl, rfl, by decide, Lib.hid rfl, Lib.hid fun j h => absurd h (by omega)⟩
  case round =>
    obtain ⟨k, T, hbw, hk, rfl, rfl, hTz, hT, hno⟩ := hrel
    obtain ⟨y, rfl⟩ := exists_later hbw
    clear hbw
    have hgy := lt_later _ y g hg
    by_cases hlt : k < n
    · obtain ⟨r, hr0⟩ := hs.at_ hlt
      have c0 := hs.2.2 k r hr0
      have hr := Lib.hid hr0
      have hrz : r.size ≤ 1048576 := by have := sumL_at hr0 hlt; have := HZ.out; omega
      clear hr0
      have hst0 := fun w => stands_any r c _ rfl (by omega) w
      cases hq : hasB r c
      all_goals rw [hq] at hst0
      all_goals have hst := Lib.hid hst0
      all_goals clear hst0
      rotate_left
      · have hfin := Lib.hid (hbad.out k r hr.out hq)
        go_wp2_with ((with_reducible refine wp_region_later (by kernel_rfl) (by kernel_rfl) ?_); (repeat (go_big_quiet_step ((go_at_call 18; exact (hst.out _).quiet)))); refine wpQuiet_nil ?_; rintro _ ⟨xr, rfl⟩)
        go_ret2
        exact ⟨by rw [hfin.out]; try rfl, (by repeat (with_reducible first | exact Below.refl _ _ | refine bw_later ?_ _ | refine bw_alloc ?_ _ | refine bw_drew ?_ | refine bw_set ?_ (Nat.le_refl _) _ | refine bw_set ?_ ?_ _ | exact Nat.le_refl _ | exact later_size _ _ | refine Nat.le_trans ?_ (later_size _ _) | refine Nat.le_trans ?_ (size_alloc_le _ _) | refine Nat.le_trans ?_ (Nat.le_add_right _ _)))⟩
      cases k with
      | zero =>
        have hT0 : T = ⟨#[]⟩ := by rw [hT.out, joinTo_zero]
        simp only [Nat.add_zero] at c0
        have hT1 := Lib.hid (show (joinTo xs ⟨#[c]⟩ 1) = r by rw [joinTo_one hr.out])
        have hq1 := hsz.out 0 (by omega)
        have hsu := sumL_succ hr.out
        have hsu2 : sumL xs 0 = 0 := sumL_zero xs
        rw [hT1.out] at hq1
        by_cases hb4 : sumL xs (0 + 1) + (0) ≤ 4000
        · have z1 : decide ((4000 : Int) < (r.size : Int)) = false := by simp; omega
          have z2 : ¬ 9223372036854775807 < T.size + 1 := by omega
          have z3 : ¬ 9223372036854775807 < T.size + r.size := by omega
          clear hq1 hsu hsu2
          go_wp2_with ((with_reducible refine wp_region_later (by kernel_rfl) (by kernel_rfl) ?_); (repeat (go_big_quiet_step ((go_at_call 18; exact (hst.out _).quiet)))); refine wpQuiet_nil ?_; rintro _ ⟨xr, rfl⟩)
          go_roundw
          case rel => exact ⟨0 + 1, _, (by repeat (with_reducible first | exact Below.refl _ _ | refine bw_later ?_ _ | refine bw_alloc ?_ _ | refine bw_drew ?_ | refine bw_set ?_ (Nat.le_refl _) _ | refine bw_set ?_ ?_ _ | exact Nat.le_refl _ | exact later_size _ _ | refine Nat.le_trans ?_ (later_size _ _) | refine Nat.le_trans ?_ (size_alloc_le _ _) | refine Nat.le_trans ?_ (Nat.le_add_right _ _))), by omega, by go_num, rfl, by first | (rw [← hT1.out, hsz.out 0 (by omega)]; omega) | (rw [nil_app]; have := of_decide_eq_false z1; omega), Lib.hid (by first | exact hT1.out.symm | (rw [hT1.out]; simp [nil_app])), Lib.hid fun i hi => by
            rcases Nat.lt_or_ge i (0) with h | h
            · exact hno.out i h
            · obtain rfl : i = 0 := by omega
              intro r' hr'
              rw [hr.out] at hr'
              obtain rfl : r = r' := by simpa using hr'
              exact hq⟩
          case measure => simp [intOf]; omega
        · have hfin := Lib.hid (hbig.out (by
            have e1 := hsz.out (n - 1) (by omega)
            have e2 := sumL_mono xs (show 0 + 1 ≤ n by omega)
            rw [show n - 1 + 1 = n by omega] at e1
            omega))
          have z1 : decide ((4000 : Int) < (r.size : Int)) = true := by simp; omega
          have z2 : ¬ 9223372036854775807 < T.size + 1 := by omega
          have z3 : ¬ 9223372036854775807 < T.size + r.size := by omega
          clear hq1 hsu hsu2
          go_wp2_with ((with_reducible refine wp_region_later (by kernel_rfl) (by kernel_rfl) ?_); (repeat (go_big_quiet_step ((go_at_call 18; exact (hst.out _).quiet)))); refine wpQuiet_nil ?_; rintro _ ⟨xr, rfl⟩)
          go_ret2
          exact ⟨by rw [hfin.out]; try rfl, (by repeat (with_reducible first | exact Below.refl _ _ | refine bw_later ?_ _ | refine bw_alloc ?_ _ | refine bw_drew ?_ | refine bw_set ?_ (Nat.le_refl _) _ | refine bw_set ?_ ?_ _ | exact Nat.le_refl _ | exact later_size _ _ | refine Nat.le_trans ?_ (later_size _ _) | refine Nat.le_trans ?_ (size_alloc_le _ _) | refine Nat.le_trans ?_ (Nat.le_add_right _ _)))⟩
      | succ j =>
        have i0 : decide ((0 : Int) < (j : Int) + 1) = true := by rw [decide_eq_true_iff]; omega
        have i1 : (0 : Int) ≤ (j : Int) + 1 := by omega
        have i2 : (j : Int) + 1 < (n : Int) := by omega
        have hTs := Lib.hid (show T.size = sumL xs (j + 1) + j by rw [hT.out]; exact hsz.out j (by omega))
        have hT1 := Lib.hid (show (joinTo xs ⟨#[c]⟩ (j + 1 + 1)) = T ++ ⟨#[c]⟩ ++ r by rw [joinTo_step hr.out, ← hT.out])
        have hq1 := hsz.out (j + 1) (by omega)
        have hsu := sumL_succ hr.out
        have hsu2 : T.size = sumL xs (j + 1) + j := hTs.out
        rw [hT1.out] at hq1
        by_cases hb4 : sumL xs (j + 1 + 1) + (j + 1) ≤ 4000
        · have z1 : decide ((4000 : Int) < (T.size : Int) + 1 + (r.size : Int)) = false := by simp; omega
          have z2 : ¬ 9223372036854775807 < T.size + 1 := by omega
          have z3 : ¬ 9223372036854775807 < T.size + 1 + r.size := by omega
          clear hq1 hsu hsu2
          go_wp2_with ((with_reducible refine wp_region_later (by kernel_rfl) (by kernel_rfl) ?_); (repeat (go_big_quiet_step ((go_at_call 18; exact (hst.out _).quiet)))); refine wpQuiet_nil ?_; rintro _ ⟨xr, rfl⟩)
          go_roundw
          case rel => exact ⟨j + 1 + 1, _, (by repeat (with_reducible first | exact Below.refl _ _ | refine bw_later ?_ _ | refine bw_alloc ?_ _ | refine bw_drew ?_ | refine bw_set ?_ (Nat.le_refl _) _ | refine bw_set ?_ ?_ _ | exact Nat.le_refl _ | exact later_size _ _ | refine Nat.le_trans ?_ (later_size _ _) | refine Nat.le_trans ?_ (size_alloc_le _ _) | refine Nat.le_trans ?_ (Nat.le_add_right _ _))), by omega, by go_num, rfl, by first | (rw [← hT1.out, hsz.out (j + 1) (by omega)]; omega) | (rw [nil_app]; have := of_decide_eq_false z1; omega), Lib.hid (by first | exact hT1.out.symm | (rw [hT1.out]; simp [nil_app])), Lib.hid fun i hi => by
            rcases Nat.lt_or_ge i (j + 1) with h | h
            · exact hno.out i h
            · obtain rfl : i = j + 1 := by omega
              intro r' hr'
              rw [hr.out] at hr'
              obtain rfl : r = r' := by simpa using hr'
              exact hq⟩
          case measure => simp [intOf]; omega
        · have hfin := Lib.hid (hbig.out (by
            have e1 := hsz.out (n - 1) (by omega)
            have e2 := sumL_mono xs (show j + 1 + 1 ≤ n by omega)
            rw [show n - 1 + 1 = n by omega] at e1
            omega))
          have z1 : decide ((4000 : Int) < (T.size : Int) + 1 + (r.size : Int)) = true := by simp; omega
          have z2 : ¬ 9223372036854775807 < T.size + 1 := by omega
          have z3 : ¬ 9223372036854775807 < T.size + 1 + r.size := by omega
          clear hq1 hsu hsu2
          go_wp2_with ((with_reducible refine wp_region_later (by kernel_rfl) (by kernel_rfl) ?_); (repeat (go_big_quiet_step ((go_at_call 18; exact (hst.out _).quiet)))); refine wpQuiet_nil ?_; rintro _ ⟨xr, rfl⟩)
          go_ret2
          exact ⟨by rw [hfin.out]; try rfl, (by repeat (with_reducible first | exact Below.refl _ _ | refine bw_later ?_ _ | refine bw_alloc ?_ _ | refine bw_drew ?_ | refine bw_set ?_ (Nat.le_refl _) _ | refine bw_set ?_ ?_ _ | exact Nat.le_refl _ | exact later_size _ _ | refine Nat.le_trans ?_ (later_size _ _) | refine Nat.le_trans ?_ (size_alloc_le _ _) | refine Nat.le_trans ?_ (Nat.le_add_right _ _)))⟩
    · obtain rfl : k = n := by omega
      have hfin := Lib.hid (hgood.out (fun j r hj => hno.out j (by have := (List.getElem?_eq_some_iff.1 hj).1; have := hl.out; omega) r hj) (by rw [← hT.out]; exact hTz))
      go_wp2
      go_ret2
      exact ⟨by rw [hfin.out, ← hT.out]; rfl, (by repeat (with_reducible first | exact Below.refl _ _ | refine bw_later ?_ _ | refine bw_alloc ?_ _ | refine bw_drew ?_ | refine bw_set ?_ (Nat.le_refl _) _ | refine bw_set ?_ ?_ _ | exact Nat.le_refl _ | exact later_size _ _ | refine Nat.le_trans ?_ (later_size _ _) | refine Nat.le_trans ?_ (size_alloc_le _ _) | refine Nat.le_trans ?_ (Nat.le_add_right _ _)))⟩
set_option maxHeartbeats 1000000 in
theorem i_Join_any (A : Option Addr) (n cp : Nat) (xs : List ByteArray) (sep : ByteArray) (w : World) (ha : AT w A n xs) (hn : n ≤ 1048576) (hz : sumL xs n ≤ 1048576) (hcp : n ≤ cp) : Gv Try.prog 14 #[.slice A n cp, .string sep] w (.tuple #[.string (joinF xs sep).1, .bool (joinF xs sep).2]) := by
  unfold Gv
  by_cases h1 : sep.size = 1
  rotate_left
  · have hfin := Lib.hid (show joinF xs sep = (⟨#[]⟩, false) by simp [joinF, h1])
    have h4 : ((sep.size : Int) == 1) = false := by rw [beq_eq_false_iff_ne]; omega
    cases h5 : ((n : Int) == 0)
    all_goals
      go_enter Try.func14, Try.ntmps14
      go_wp2_with fail
      all_goals (go_ret2; exact ⟨by rw [hfin.out]; try rfl, (by repeat (with_reducible first | exact Below.refl _ _ | refine bw_later ?_ _ | refine bw_alloc ?_ _ | refine bw_drew ?_ | refine bw_set ?_ (Nat.le_refl _) _ | refine bw_set ?_ ?_ _ | exact Nat.le_refl _ | exact later_size _ _ | refine Nat.le_trans ?_ (later_size _ _) | refine Nat.le_trans ?_ (size_alloc_le _ _) | refine Nat.le_trans ?_ (Nat.le_add_right _ _)))⟩)
  obtain ⟨c, rfl, e⟩ := one_byte h1
  have hl := Lib.hid ha.1
  by_cases h0 : n = 0
  · subst h0
    have hfin := Lib.hid (show joinF xs ⟨#[c]⟩ = (⟨#[]⟩, false) by simp [joinF, ha.1])
    go_enter Try.func14, Try.ntmps14
    go_wp2_with fail
    all_goals (go_ret2; exact ⟨by rw [hfin.out]; try rfl, (by repeat (with_reducible first | exact Below.refl _ _ | refine bw_later ?_ _ | refine bw_alloc ?_ _ | refine bw_drew ?_ | refine bw_set ?_ (Nat.le_refl _) _ | refine bw_set ?_ ?_ _ | exact Nat.le_refl _ | exact later_size _ _ | refine Nat.le_trans ?_ (later_size _ _) | refine Nat.le_trans ?_ (size_alloc_le _ _) | refine Nat.le_trans ?_ (Nat.le_add_right _ _)))⟩)
  have h5 : ((n : Int) == 0) = false := by rw [beq_eq_false_iff_ne]; omega
  obtain ⟨g, off, rfl, hs⟩ := ha.2 (by omega)
  have hg := hs.1
  have HS1 := Lib.hid h1
  have hbad : Hid (∀ (k : Nat) (r : ByteArray), xs[k]? = some r → hasB r c = true → joinF xs ⟨#[c]⟩ = (⟨#[]⟩, false)) := Lib.hid fun k r hr h => by
    have : noneB c xs = false := noneB_f hr h
    have e2 : ((⟨#[c]⟩ : ByteArray).data.toList.getD 0 0) = c := rfl
    simp only [joinF, e2, this, Bool.false_and, Bool.and_false, Bool.false_eq_true, if_false]
  have hsz : Hid (∀ k, k + 1 ≤ n → (joinTo xs ⟨#[c]⟩ (k + 1)).size = sumL xs (k + 1) + k) := Lib.hid fun k hk => joinTo_size h1 k (by rw [hl.out]; exact hk)
  have hbig : Hid (4000 < (joinTo xs ⟨#[c]⟩ n).size → joinF xs ⟨#[c]⟩ = (⟨#[]⟩, false)) := Lib.hid fun h => by
    have : decide ((joinTo xs ⟨#[c]⟩ xs.length).size ≤ 4000) = false := by rw [hl.out]; simp; omega
    simp only [joinF, this, Bool.and_false, Bool.false_eq_true, if_false]
  have hgood : Hid ((∀ (j : Nat) (r : ByteArray), xs[j]? = some r → hasB r c = false) → (joinTo xs ⟨#[c]⟩ n).size ≤ 4000 → joinF xs ⟨#[c]⟩ = (joinTo xs ⟨#[c]⟩ n, true)) := Lib.hid fun h h2 => by
    have e1 : noneB c xs = true := noneB_t h
    have e2 : ((⟨#[c]⟩ : ByteArray).data.toList.getD 0 0) = c := rfl
    have e3 : decide ((joinTo xs ⟨#[c]⟩ xs.length).size ≤ 4000) = true := by rw [hl.out]; simpa using h2
    have e4 : decide (0 < xs.length) = true := by rw [hl.out]; simp; omega
    have e5 : decide ((⟨#[c]⟩ : ByteArray).size = 1) = true := by simpa using h1
    rw [hl.out] at e3 e4
    simp only [joinF, e1, e2, e5, hl.out, e3, e4, Bool.and_true, if_true]
  have HZ := Lib.hid hz
  clear e h1 hz
  go_enter Try.func14, Try.ntmps14
  go_wp2
  go_loopw [6, 22] (fun t i wr => ∃ k : Nat, Below w.heap.size w wr ∧ k ≤ n ∧ i = .int .i64 (k : Int) ∧ t = .int .i64 ((n : Int) - 1 + (sumL xs k : Int)) ∧ Hid (∀ j : Nat, j < k → ∀ r : ByteArray, xs[j]? = some r → hasB r c = false)) (fun _ i _ => n - (intOf i).toNat)
  case atStart => exact ⟨0, (by repeat (with_reducible first | exact Below.refl _ _ | refine bw_later ?_ _ | refine bw_alloc ?_ _ | refine bw_drew ?_ | refine bw_set ?_ (Nat.le_refl _) _ | refine bw_set ?_ ?_ _ | exact Nat.le_refl _ | exact later_size _ _ | refine Nat.le_trans ?_ (later_size _ _) | refine Nat.le_trans ?_ (size_alloc_le _ _) | refine Nat.le_trans ?_ (Nat.le_add_right _ _))), by omega, rfl, by simp [sumL_zero], Lib.hid fun j h => absurd h (by omega)⟩
  case round =>
    obtain ⟨k, hbw, hk, rfl, rfl, hno⟩ := hrel
    obtain ⟨y, rfl⟩ := exists_later hbw
    clear hbw
    have hgy := lt_later _ y g hg
    by_cases hlt : k < n
    · obtain ⟨r, hr0⟩ := hs.at_ hlt
      have c0 := hs.2.2 k r hr0
      have hr := Lib.hid hr0
      have hsu := sumL_succ hr0
      have hsm := sumL_mono xs (show k + 1 ≤ n by omega)
      have hzz := HZ.out
      clear hr0
      have hst0 := fun w => contains_any r c w
      cases hq : hasB r c
      all_goals rw [hq] at hst0
      all_goals have hst := Lib.hid hst0
      all_goals clear hst0
      · go_wp2_with (go_at_call 19; (first | refine (hst.out _).onL ?_ | refine (hst.out _).on ?_); intro xq)
        go_roundw
        case rel => exact ⟨k + 1, (by repeat (with_reducible first | exact Below.refl _ _ | refine bw_later ?_ _ | refine bw_alloc ?_ _ | refine bw_drew ?_ | refine bw_set ?_ (Nat.le_refl _) _ | refine bw_set ?_ ?_ _ | exact Nat.le_refl _ | exact later_size _ _ | refine Nat.le_trans ?_ (later_size _ _) | refine Nat.le_trans ?_ (size_alloc_le _ _) | refine Nat.le_trans ?_ (Nat.le_add_right _ _))), by omega, by go_num, by congr 1; omega, Lib.hid fun i hi => by
          rcases Nat.lt_or_ge i k with h | h
          · exact hno.out i h
          · obtain rfl : i = k := by omega
            intro r' hr'
            rw [hr.out] at hr'
            obtain rfl : r = r' := by simpa using hr'
            exact hq⟩
        case measure => simp [intOf]; omega
      · have hfin := Lib.hid (hbad.out k r hr.out hq)
        go_wp2_with (go_at_call 19; (first | refine (hst.out _).onL ?_ | refine (hst.out _).on ?_); intro xq)
        go_ret2
        exact ⟨by rw [hfin.out]; try rfl, (by repeat (with_reducible first | exact Below.refl _ _ | refine bw_later ?_ _ | refine bw_alloc ?_ _ | refine bw_drew ?_ | refine bw_set ?_ (Nat.le_refl _) _ | refine bw_set ?_ ?_ _ | exact Nat.le_refl _ | exact later_size _ _ | refine Nat.le_trans ?_ (later_size _ _) | refine Nat.le_trans ?_ (size_alloc_le _ _) | refine Nat.le_trans ?_ (Nat.le_add_right _ _)))⟩
    · obtain rfl : k = n := by omega
      have e1 := hsz.out (k - 1) (by omega)
      rw [show k - 1 + 1 = k by omega] at e1
      have hzz := HZ.out
      by_cases hb4 : sumL xs k + (k - 1) ≤ 4000
      · have z1 : decide ((4000 : Int) < (k : Int) - 1 + (sumL xs k : Int)) = false := by simp; omega
        have hfin := Lib.hid (hgood.out (fun j r hj => hno.out j (by have := (List.getElem?_eq_some_iff.1 hj).1; have := hl.out; omega) r hj) (by omega))
        have hj := Lib.hid (joinT_any g off cp k xs ⟨#[c]⟩ (later w y) (hs.later y) hcp hn (by
          have e2 : joinTo xs ⟨#[c]⟩ k = mkB (Lib.join (xs.map (·.data.toList)) (⟨#[c]⟩ : ByteArray).data.toList) := by unfold joinTo; rw [← hl.out, List.take_length]
          rw [e2, mkB_size] at e1
          omega))
        clear e1
        go_wp2_with (go_at_call 20; (first | refine (hj.out).onL ?_ | refine (hj.out).on ?_); intro xq)
        go_ret2
        exact ⟨by rw [hfin.out, joinTo, ← hl.out, List.take_length]; rfl, (by repeat (with_reducible first | exact Below.refl _ _ | refine bw_later ?_ _ | refine bw_alloc ?_ _ | refine bw_drew ?_ | refine bw_set ?_ (Nat.le_refl _) _ | refine bw_set ?_ ?_ _ | exact Nat.le_refl _ | exact later_size _ _ | refine Nat.le_trans ?_ (later_size _ _) | refine Nat.le_trans ?_ (size_alloc_le _ _) | refine Nat.le_trans ?_ (Nat.le_add_right _ _)))⟩
      · have z1 : decide ((4000 : Int) < (k : Int) - 1 + (sumL xs k : Int)) = true := by simp; omega
        have hfin := Lib.hid (hbig.out (by omega))
        clear e1
        go_wp2
        go_ret2
        exact ⟨by rw [hfin.out]; try rfl, (by repeat (with_reducible first | exact Below.refl _ _ | refine bw_later ?_ _ | refine bw_alloc ?_ _ | refine bw_drew ?_ | refine bw_set ?_ (Nat.le_refl _) _ | refine bw_set ?_ ?_ _ | exact Nat.le_refl _ | exact later_size _ _ | refine Nat.le_trans ?_ (later_size _ _) | refine Nat.le_trans ?_ (size_alloc_le _ _) | refine Nat.le_trans ?_ (Nat.le_add_right _ _)))⟩
theorem law_JoinStrings (A : Option Addr) (n c : Nat) (xs : List ByteArray) (sep : ByteArray) (w : World) (rd : AT w A n xs ∧ n ≤ 9223372036854775807 ∧ ∀ x ∈ xs, x.size ≤ maxLen) (_h1 : sep.size ≤ maxLen) : Gv Try.prog 6 #[.slice A n c, .string sep] w (.bool true) := by
  unfold Gv
  obtain ⟨ha, hn9, hz⟩ := rd
  by_cases ks : sep.size ≤ 1048576
  rotate_left
  · have hk : decide ((1048576 : Int) < (sep.size : Int)) = true := by simp; omega
    go_enter Try.func6, Try.ntmps6
    go_wp2_with fail
    all_goals (go_ret; exact ⟨rfl, (by repeat (with_reducible first | exact Below.refl _ _ | refine bw_later ?_ _ | refine bw_alloc ?_ _ | refine bw_drew ?_ | refine bw_set ?_ (Nat.le_refl _) _ | refine bw_set ?_ ?_ _ | exact Nat.le_refl _ | exact later_size _ _ | refine Nat.le_trans ?_ (later_size _ _) | refine Nat.le_trans ?_ (size_alloc_le _ _) | refine Nat.le_trans ?_ (Nat.le_add_right _ _)))⟩)
  have hk : decide ((1048576 : Int) < (sep.size : Int)) = false := by simp; omega
  have hszc := Lib.hid (szString_any A n c xs w ha hn9 hz)
  by_cases hT : n + sumL xs n ≤ 1048576
  rotate_left
  · have h2 := hszc.out
    rw [if_neg hT] at h2
    have HS := Lib.hid h2
    clear h2 hszc hz
    go_enter Try.func6, Try.ntmps6
    go_wp2_with (go_at_call 11; (first | refine (HS.out).onL ?_ | refine (HS.out).on ?_); intro xq)
    all_goals (go_ret; exact ⟨rfl, (by repeat (with_reducible first | exact Below.refl _ _ | refine bw_later ?_ _ | refine bw_alloc ?_ _ | refine bw_drew ?_ | refine bw_set ?_ (Nat.le_refl _) _ | refine bw_set ?_ ?_ _ | exact Nat.le_refl _ | exact later_size _ _ | refine Nat.le_trans ?_ (later_size _ _) | refine Nat.le_trans ?_ (size_alloc_le _ _) | refine Nat.le_trans ?_ (Nat.le_add_right _ _)))⟩)
  have h2 := hszc.out
  rw [if_pos hT] at h2
  have HS := Lib.hid h2
  clear h2 hszc hz
  have hn : n ≤ 1048576 := by omega
  have hz : sumL xs n ≤ 1048576 := by omega
  have hd : decide ((1048576 : Int) - (n : Int) - (sumL xs n : Int) < 0) = false := by simp; omega
  have HA := Lib.hid ha
  clear hT ha
  go_enter Try.func6, Try.ntmps6
  go_wp2_with (go_at_call 11; refine (HS.out).on ?_; intro x0)
  go_wp2_with (go_at_call 13; refine Calls.mono (toString_any A n c xs _ (HA.out.below2 (by repeat (with_reducible first | exact Below.refl _ _ | refine bw_later ?_ _ | refine bw_alloc ?_ _ | refine bw_drew ?_ | refine bw_set ?_ (Nat.le_refl _) _ | refine bw_set ?_ ?_ _ | exact Nat.le_refl _ | exact later_size _ _ | refine Nat.le_trans ?_ (later_size _ _) | refine Nat.le_trans ?_ (size_alloc_le _ _) | refine Nat.le_trans ?_ (Nat.le_add_right _ _)))) hn) ?_; rintro _ w1 ⟨g1, rfl, q1, hO1, b1⟩; obtain ⟨y1, rfl⟩ := exists_later (bw_trans (a := w) (by repeat (with_reducible first | exact Below.refl _ _ | refine bw_later ?_ _ | refine bw_alloc ?_ _ | refine bw_drew ?_ | refine bw_set ?_ (Nat.le_refl _) _ | refine bw_set ?_ ?_ _ | exact Nat.le_refl _ | exact later_size _ _ | refine Nat.le_trans ?_ (later_size _ _) | refine Nat.le_trans ?_ (size_alloc_le _ _) | refine Nat.le_trans ?_ (Nat.le_add_right _ _))) b1); clear b1)
  go_wp2_with (go_at_call 12; refine Calls.mono (s_Join_any (some ⟨g1, 0, none⟩) n n xs sep _ hO1.reads hn hz) ?_; rintro _ w2 ⟨rfl, b2⟩; replace hO1 := hO1.below2 b2; obtain ⟨y2, rfl⟩ := exists_later (bw_trans (a := w) (by repeat (with_reducible first | exact Below.refl _ _ | refine bw_later ?_ _ | refine bw_alloc ?_ _ | refine bw_drew ?_ | refine bw_set ?_ (Nat.le_refl _) _ | refine bw_set ?_ ?_ _ | exact Nat.le_refl _ | exact later_size _ _ | refine Nat.le_trans ?_ (later_size _ _) | refine Nat.le_trans ?_ (size_alloc_le _ _) | refine Nat.le_trans ?_ (Nat.le_add_right _ _))) b2); clear b2)
  go_wp2_with (go_at_call 13; refine Calls.mono (toString_any A n c xs _ (HA.out.below2 (by repeat (with_reducible first | exact Below.refl _ _ | refine bw_later ?_ _ | refine bw_alloc ?_ _ | refine bw_drew ?_ | refine bw_set ?_ (Nat.le_refl _) _ | refine bw_set ?_ ?_ _ | exact Nat.le_refl _ | exact later_size _ _ | refine Nat.le_trans ?_ (later_size _ _) | refine Nat.le_trans ?_ (size_alloc_le _ _) | refine Nat.le_trans ?_ (Nat.le_add_right _ _)))) hn) ?_; rintro _ w3 ⟨g3, rfl, q3, hO3, b3⟩; obtain ⟨y3, rfl⟩ := exists_later (bw_trans (a := w) (by repeat (with_reducible first | exact Below.refl _ _ | refine bw_later ?_ _ | refine bw_alloc ?_ _ | refine bw_drew ?_ | refine bw_set ?_ (Nat.le_refl _) _ | refine bw_set ?_ ?_ _ | exact Nat.le_refl _ | exact later_size _ _ | refine Nat.le_trans ?_ (later_size _ _) | refine Nat.le_trans ?_ (size_alloc_le _ _) | refine Nat.le_trans ?_ (Nat.le_add_right _ _))) b3); clear b3)
  go_wp2_with (go_at_call 14; refine Calls.mono (i_Join_any (some ⟨g3, 0, none⟩) n n xs sep _ hO3.reads hn hz (Nat.le_refl _)) ?_; rintro _ w4 ⟨rfl, b4⟩; replace hO3 := hO3.below2 b4; obtain ⟨y4, rfl⟩ := exists_later (bw_trans (a := w) (by repeat (with_reducible first | exact Below.refl _ _ | refine bw_later ?_ _ | refine bw_alloc ?_ _ | refine bw_drew ?_ | refine bw_set ?_ (Nat.le_refl _) _ | refine bw_set ?_ ?_ _ | exact Nat.le_refl _ | exact later_size _ _ | refine Nat.le_trans ?_ (later_size _ _) | refine Nat.le_trans ?_ (size_alloc_le _ _) | refine Nat.le_trans ?_ (Nat.le_add_right _ _))) b4); clear b4)
  go_wp2_with (go_at_call 13; refine Calls.mono (toString_any A n c xs _ (HA.out.below2 (by repeat (with_reducible first | exact Below.refl _ _ | refine bw_later ?_ _ | refine bw_alloc ?_ _ | refine bw_drew ?_ | refine bw_set ?_ (Nat.le_refl _) _ | refine bw_set ?_ ?_ _ | exact Nat.le_refl _ | exact later_size _ _ | refine Nat.le_trans ?_ (later_size _ _) | refine Nat.le_trans ?_ (size_alloc_le _ _) | refine Nat.le_trans ?_ (Nat.le_add_right _ _)))) hn) ?_; rintro _ w5 ⟨g5, rfl, q5, hO5, b5⟩; replace hO3 := hO3.below2 b5; obtain ⟨y5, rfl⟩ := exists_later (bw_trans (a := w) (by repeat (with_reducible first | exact Below.refl _ _ | refine bw_later ?_ _ | refine bw_alloc ?_ _ | refine bw_drew ?_ | refine bw_set ?_ (Nat.le_refl _) _ | refine bw_set ?_ ?_ _ | exact Nat.le_refl _ | exact later_size _ _ | refine Nat.le_trans ?_ (later_size _ _) | refine Nat.le_trans ?_ (size_alloc_le _ _) | refine Nat.le_trans ?_ (Nat.le_add_right _ _))) b5); clear b5)
  go_wp2_with (go_at_call 15; refine Calls.mono (eqStringS_any (some ⟨g3, 0, none⟩) (some ⟨g5, 0, none⟩) n n n n xs xs _ hO3.reads hO5.reads hn hn) ?_; rintro _ w6 ⟨rfl, b6⟩; obtain ⟨y6, rfl⟩ := exists_later (bw_trans (a := w) (by repeat (with_reducible first | exact Below.refl _ _ | refine bw_later ?_ _ | refine bw_alloc ?_ _ | refine bw_drew ?_ | refine bw_set ?_ (Nat.le_refl _) _ | refine bw_set ?_ ?_ _ | exact Nat.le_refl _ | exact later_size _ _ | refine Nat.le_trans ?_ (later_size _ _) | refine Nat.le_trans ?_ (size_alloc_le _ _) | refine Nat.le_trans ?_ (Nat.le_add_right _ _))) b6); clear b6)
  all_goals (go_ret; exact ⟨by simp, (by repeat (with_reducible first | exact Below.refl _ _ | refine bw_later ?_ _ | refine bw_alloc ?_ _ | refine bw_drew ?_ | refine bw_set ?_ (Nat.le_refl _) _ | refine bw_set ?_ ?_ _ | exact Nat.le_refl _ | exact later_size _ _ | refine Nat.le_trans ?_ (later_size _ _) | refine Nat.le_trans ?_ (size_alloc_le _ _) | refine Nat.le_trans ?_ (Nat.le_add_right _ _)))⟩)
end Go.Proofs.Yteakffedlojcmaa
