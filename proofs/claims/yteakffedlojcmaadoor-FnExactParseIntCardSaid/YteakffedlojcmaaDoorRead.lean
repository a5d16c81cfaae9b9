/- The number of a text: the reference. -/
import Derived.Test.YteakffedlojcmaaDoorReadL
namespace Go.Proofs.YteakffedlojcmaaDoor
open Go.RowKit
theorem isNeg_a {s : ByteArray} (h : ¬ 1 < s.size) : isNeg s = false := by simp [isNeg, h]
theorem isNeg_b {s : ByteArray} (h : 1 < s.size) : isNeg s = decide ((s[0]'(by omega)).toNat = 45) := by
  unfold isNeg
  have e : s.data.toList[0]? = some (s[0]'(by omega)) := by
    rw [List.getElem?_eq_getElem (by simpa using by omega)]
    rfl
  rw [e]
  simp only [h, decide_true, Bool.true_and]
  by_cases hq : (s[0]'(by omega)).toNat = 45
  · have : s[0]'(by omega) = 45 := UInt8.toNat_inj.1 hq
    simp [this]
  · have : ¬ s[0]'(by omega) = 45 := fun e => hq (by rw [e]; rfl)
    simp [this, hq]
theorem body_no {s : ByteArray} (h : isNeg s = false) : bodyL s = s.data.toList := by simp [bodyL, h]
theorem body_yes {s T : ByteArray} (h : isNeg s = true) (hT : s.extract 1 s.size = T) : bodyL s = T.data.toList := by
  subst hT
  rw [extract_mk, mkB_data, List.take_of_length_le (by simp)]
  simp [bodyL, h]
theorem at_mem {s T : ByteArray} (hB : bodyL s = T.data.toList) {k : Nat} (hk : k < T.size) : T[k] ∈ bodyL s := by
  rw [hB]
  exact List.getElem_mem (l := T.data.toList) (by simpa using hk)
theorem val_step {T : ByteArray} {k : Nat} (hk : k < T.size) : valL (T.data.toList.take (k + 1)) = 10 * valL (T.data.toList.take k) + (((T[k]).toNat : Int) - 48) := by
  have hl : k < T.data.toList.length := by simpa using hk
  rw [List.take_add_one, List.getElem?_eq_getElem hl]
  exact valL_snoc _ _
theorem val_bd {T : ByteArray} {k : Nat} (hk : k ≤ T.size) (h : ∀ j (hj : j < T.size), j < k → 48 ≤ (T[j]).toNat ∧ (T[j]).toNat ≤ 57) : 0 ≤ valL (T.data.toList.take k) ∧ valL (T.data.toList.take k) < ((10 ^ k : Nat) : Int) := by
  refine valL_bd k _ (by simp; omega) fun c hc => ?_
  obtain ⟨j, hj, rfl⟩ := List.getElem_of_mem hc
  have hj1 : j < k := by simp at hj; omega
  rw [List.getElem_take]
  exact h j (by omega) hj1
theorem pow_bd {k m : Nat} {n : Int} (h : n < ((10 ^ k : Nat) : Int)) (hk : k ≤ m) : n < ((10 ^ m : Nat) : Int) := by
  have : 10 ^ k ≤ 10 ^ m := Nat.pow_le_pow_right (by omega) hk
  omega
theorem read_any (s : ByteArray) (hs : s.size ≤ 1048576) (w : World) : Gv Tryd.prog 44 #[.string s] w (.tuple #[.int .i64 (readF s).1, .bool (readF s).2]) := by
  unfold Gv
  by_cases h1 : 1 < s.size
  rotate_left
  · have h1' : decide ((1 : Int) < (s.size : Int)) = false := by simp; omega
    have hN := isNeg_a h1
    have hB := body_no hN
    have hsz : s.size = (bodyL s).length := by rw [hB]; simp
    cases hI : inB (s.size : Int) 1 6
    · have hfin := Lib.hid (show readF s = (0, false) from read_len (by have := inB_f hI; omega))
      clear hB hsz
      go_enter Tryd.func44, Tryd.ntmps44
      go_wp2_with (go_at_call 32; (first | refine (in_any _ _ _ _).onL ?_ | refine (in_any _ _ _ _).on ?_); intro xq)
      all_goals (go_ret2; exact ⟨by rw [hfin.out]; try rfl, (by repeat (with_reducible first | exact hbD | exact Below.refl _ _ | refine bw_later ?_ _ | refine bw_alloc ?_ _ | refine bw_drew ?_ | refine bw_set ?_ (Nat.le_refl _) _ | refine bw_set ?_ ?_ _ | exact Nat.le_refl _ | exact later_size _ _ | refine Nat.le_trans ?_ (later_size _ _) | refine Nat.le_trans ?_ (size_alloc_le _ _) | refine Nat.le_trans ?_ (Nat.le_add_right _ _)))⟩)
    obtain ⟨i1, i6⟩ := inB_t hI
    have HB := Lib.hid hB
    have HN := Lib.hid hN
    clear hB hsz hN
    go_enter Tryd.func44, Tryd.ntmps44
    go_wp2_with (go_at_call 32; (first | refine (in_any _ _ _ _).onL ?_ | refine (in_any _ _ _ _).on ?_); intro xq)
    clear hI
    go_loopw [5, 6] (fun nv i wr => ∃ (k : Nat) (n : Int), Below w.heap.size w wr ∧ k ≤ s.size ∧ i = .int .i64 (k : Int) ∧ nv = .int .i64 n ∧ 0 ≤ n ∧ n < 1000000 ∧ Hid (n = valL (s.data.toList.take k)) ∧ Hid (∀ j (hj : j < s.size), j < k → 48 ≤ (s[j]).toNat ∧ (s[j]).toNat ≤ 57)) (fun _ i _ => s.size - (intOf i).toNat)
    case atStart => exact ⟨0, 0, (by repeat (with_reducible first | exact hbD | exact Below.refl _ _ | refine bw_later ?_ _ | refine bw_alloc ?_ _ | refine bw_drew ?_ | refine bw_set ?_ (Nat.le_refl _) _ | refine bw_set ?_ ?_ _ | exact Nat.le_refl _ | exact later_size _ _ | refine Nat.le_trans ?_ (later_size _ _) | refine Nat.le_trans ?_ (size_alloc_le _ _) | refine Nat.le_trans ?_ (Nat.le_add_right _ _))), by omega, rfl, rfl, by omega, by omega, Lib.hid (by simp [valL]), Lib.hid fun j _ h => absurd h (by omega)⟩
    case round =>
      obtain ⟨k, n, hb, hk, rfl, rfl, n0, n1, hv, hd⟩ := hrel
      obtain ⟨y, rfl⟩ := exists_later hb
      clear hb
      by_cases hlt : k < s.size
      · have hbyte : (s[k]).toNat < 256 := UInt8.toNat_lt _
        have n2 : n < 100000 := by
          have := (val_bd hk hd.out).2
          rw [← hv.out] at this
          have := pow_bd (m := 5) this (by omega)
          omega
        by_cases p0 : (s[k]).toNat < 48
        · have hfin := Lib.hid (show readF s = (0, false) from read_dig (at_mem HB.out hlt) (by omega))
          have e : decide (((s[k]).toNat : Int) < 48) = true := by simp; omega
          go_wp2
          go_ret2
          exact ⟨by rw [hfin.out]; try rfl, (by repeat (with_reducible first | exact hbD | exact Below.refl _ _ | refine bw_later ?_ _ | refine bw_alloc ?_ _ | refine bw_drew ?_ | refine bw_set ?_ (Nat.le_refl _) _ | refine bw_set ?_ ?_ _ | exact Nat.le_refl _ | exact later_size _ _ | refine Nat.le_trans ?_ (later_size _ _) | refine Nat.le_trans ?_ (size_alloc_le _ _) | refine Nat.le_trans ?_ (Nat.le_add_right _ _)))⟩
        have e0 : decide (((s[k]).toNat : Int) < 48) = false := by simp; omega
        by_cases p1 : 57 < (s[k]).toNat
        · have hfin := Lib.hid (show readF s = (0, false) from read_dig (at_mem HB.out hlt) (by omega))
          have e : decide ((57 : Int) < ((s[k]).toNat : Int)) = true := by simp; omega
          go_wp2
          go_ret2
          exact ⟨by rw [hfin.out]; try rfl, (by repeat (with_reducible first | exact hbD | exact Below.refl _ _ | refine bw_later ?_ _ | refine bw_alloc ?_ _ | refine bw_drew ?_ | refine bw_set ?_ (Nat.le_refl _) _ | refine bw_set ?_ ?_ _ | exact Nat.le_refl _ | exact later_size _ _ | refine Nat.le_trans ?_ (later_size _ _) | refine Nat.le_trans ?_ (size_alloc_le _ _) | refine Nat.le_trans ?_ (Nat.le_add_right _ _)))⟩
        have e1 : decide ((57 : Int) < ((s[k]).toNat : Int)) = false := by simp; omega
        have hs := Lib.hid (val_step hlt)
        have hw8 : IntKind.u8.wrap (((s[k]).toNat : Int) - 48) = ((s[k]).toNat : Int) - 48 := by simp [IntKind.wrap, IntKind.signed, IntKind.bits]; omega
        go_wp2
        go_roundw
        case rel => exact ⟨k + 1, 10 * n + (((s[k]).toNat : Int) - 48), (by repeat (with_reducible first | exact hbD | exact Below.refl _ _ | refine bw_later ?_ _ | refine bw_alloc ?_ _ | refine bw_drew ?_ | refine bw_set ?_ (Nat.le_refl _) _ | refine bw_set ?_ ?_ _ | exact Nat.le_refl _ | exact later_size _ _ | refine Nat.le_trans ?_ (later_size _ _) | refine Nat.le_trans ?_ (size_alloc_le _ _) | refine Nat.le_trans ?_ (Nat.le_add_right _ _))), by omega, by go_num, by first | rfl | go_num, by omega, by omega, Lib.hid (by rw [hs.out, ← hv.out]), Lib.hid fun j hj h => by
          rcases Nat.lt_or_ge j k with h' | h'
          · exact hd.out j hj h'
          · obtain rfl : j = k := by omega
            exact ⟨by omega, by omega⟩⟩
        case measure => simp [intOf]; omega
      · obtain rfl : k = s.size := by omega
        have hv2 : Hid (n = valL (bodyL s)) := Lib.hid (by rw [hv.out, HB.out, List.take_of_length_le (by simp)])
        cases hq : ((numB (n)).toList == s.toList)
        · have hfin := Lib.hid (show readF s = (0, false) from read_num (by
            rw [HN.out]
            simp only [Bool.false_eq_true, if_false, ← hv2.out]
            rw [str_eq] at hq
            simpa using hq))
          go_wp2_with (go_at_call 33; (first | refine (num_any (n) (by omega) (by omega) _).onL ?_ | refine (num_any (n) (by omega) (by omega) _).on ?_); intro xq)
          go_ret2
          exact ⟨by rw [hfin.out]; try rfl, (by repeat (with_reducible first | exact hbD | exact Below.refl _ _ | refine bw_later ?_ _ | refine bw_alloc ?_ _ | refine bw_drew ?_ | refine bw_set ?_ (Nat.le_refl _) _ | refine bw_set ?_ ?_ _ | exact Nat.le_refl _ | exact later_size _ _ | refine Nat.le_trans ?_ (later_size _ _) | refine Nat.le_trans ?_ (size_alloc_le _ _) | refine Nat.le_trans ?_ (Nat.le_add_right _ _)))⟩
        · have hfin := Lib.hid (show readF s = (n, true) from readF_some (by omega) (by omega) (by rw [str_eq] at hq; simpa using hq))
          go_wp2_with (go_at_call 33; (first | refine (num_any (n) (by omega) (by omega) _).onL ?_ | refine (num_any (n) (by omega) (by omega) _).on ?_); intro xq)
          go_ret2
          exact ⟨by rw [hfin.out]; try rfl, (by repeat (with_reducible first | exact hbD | exact Below.refl _ _ | refine bw_later ?_ _ | refine bw_alloc ?_ _ | refine bw_drew ?_ | refine bw_set ?_ (Nat.le_refl _) _ | refine bw_set ?_ ?_ _ | exact Nat.le_refl _ | exact later_size _ _ | refine Nat.le_trans ?_ (later_size _ _) | refine Nat.le_trans ?_ (size_alloc_le _ _) | refine Nat.le_trans ?_ (Nat.le_add_right _ _)))⟩
  have h1' : decide ((1 : Int) < (s.size : Int)) = true := by simp; omega
  have hN := isNeg_b h1
  by_cases hc : (s[0]'(by omega)).toNat = 45
  rotate_left
  · have e45 : (((s[0]'(by omega)).toNat : Int) == 45) = false := by simp; omega
    rw [decide_eq_false hc] at hN
    have hB := body_no hN
    have hsz : s.size = (bodyL s).length := by rw [hB]; simp
    cases hI : inB (s.size : Int) 1 6
    · have hfin := Lib.hid (show readF s = (0, false) from read_len (by have := inB_f hI; omega))
      clear hB hsz
      go_enter Tryd.func44, Tryd.ntmps44
      go_wp2_with (go_at_call 32; (first | refine (in_any _ _ _ _).onL ?_ | refine (in_any _ _ _ _).on ?_); intro xq)
      all_goals (go_ret2; exact ⟨by rw [hfin.out]; try rfl, (by repeat (with_reducible first | exact hbD | exact Below.refl _ _ | refine bw_later ?_ _ | refine bw_alloc ?_ _ | refine bw_drew ?_ | refine bw_set ?_ (Nat.le_refl _) _ | refine bw_set ?_ ?_ _ | exact Nat.le_refl _ | exact later_size _ _ | refine Nat.le_trans ?_ (later_size _ _) | refine Nat.le_trans ?_ (size_alloc_le _ _) | refine Nat.le_trans ?_ (Nat.le_add_right _ _)))⟩)
    obtain ⟨i1, i6⟩ := inB_t hI
    have HB := Lib.hid hB
    have HN := Lib.hid hN
    clear hB hsz hN
    go_enter Tryd.func44, Tryd.ntmps44
    go_wp2_with (go_at_call 32; (first | refine (in_any _ _ _ _).onL ?_ | refine (in_any _ _ _ _).on ?_); intro xq)
    clear hI
    go_loopw [5, 6] (fun nv i wr => ∃ (k : Nat) (n : Int), Below w.heap.size w wr ∧ k ≤ s.size ∧ i = .int .i64 (k : Int) ∧ nv = .int .i64 n ∧ 0 ≤ n ∧ n < 1000000 ∧ Hid (n = valL (s.data.toList.take k)) ∧ Hid (∀ j (hj : j < s.size), j < k → 48 ≤ (s[j]).toNat ∧ (s[j]).toNat ≤ 57)) (fun _ i _ => s.size - (intOf i).toNat)
    case atStart => exact ⟨0, 0, (by repeat (with_reducible first | exact hbD | exact Below.refl _ _ | refine bw_later ?_ _ | refine bw_alloc ?_ _ | refine bw_drew ?_ | refine bw_set ?_ (Nat.le_refl _) _ | refine bw_set ?_ ?_ _ | exact Nat.le_refl _ | exact later_size _ _ | refine Nat.le_trans ?_ (later_size _ _) | refine Nat.le_trans ?_ (size_alloc_le _ _) | refine Nat.le_trans ?_ (Nat.le_add_right _ _))), by omega, rfl, rfl, by omega, by omega, Lib.hid (by simp [valL]), Lib.hid fun j _ h => absurd h (by omega)⟩
    case round =>
      obtain ⟨k, n, hb, hk, rfl, rfl, n0, n1, hv, hd⟩ := hrel
      obtain ⟨y, rfl⟩ := exists_later hb
      clear hb
      by_cases hlt : k < s.size
      · have hbyte : (s[k]).toNat < 256 := UInt8.toNat_lt _
        have n2 : n < 100000 := by
          have := (val_bd hk hd.out).2
          rw [← hv.out] at this
          have := pow_bd (m := 5) this (by omega)
          omega
        by_cases p0 : (s[k]).toNat < 48
        · have hfin := Lib.hid (show readF s = (0, false) from read_dig (at_mem HB.out hlt) (by omega))
          have e : decide (((s[k]).toNat : Int) < 48) = true := by simp; omega
          go_wp2
          go_ret2
          exact ⟨by rw [hfin.out]; try rfl, (by repeat (with_reducible first | exact hbD | exact Below.refl _ _ | refine bw_later ?_ _ | refine bw_alloc ?_ _ | refine bw_drew ?_ | refine bw_set ?_ (Nat.le_refl _) _ | refine bw_set ?_ ?_ _ | exact Nat.le_refl _ | exact later_size _ _ | refine Nat.le_trans ?_ (later_size _ _) | refine Nat.le_trans ?_ (size_alloc_le _ _) | refine Nat.le_trans ?_ (Nat.le_add_right _ _)))⟩
        have e0 : decide (((s[k]).toNat : Int) < 48) = false := by simp; omega
        by_cases p1 : 57 < (s[k]).toNat
        · have hfin := Lib.hid (show readF s = (0, false) from read_dig (at_mem HB.out hlt) (by omega))
          have e : decide ((57 : Int) < ((s[k]).toNat : Int)) = true := by simp; omega
          go_wp2
          go_ret2
          exact ⟨by rw [hfin.out]; try rfl, (by repeat (with_reducible first | exact hbD | exact Below.refl _ _ | refine bw_later ?_ _ | refine bw_alloc ?_ _ | refine bw_drew ?_ | refine bw_set ?_ (Nat.le_refl _) _ | refine bw_set ?_ ?_ _ | exact Nat.le_refl _ | exact later_size _ _ | refine Nat.le_trans ?_ (later_size _ _) | refine Nat.le_trans ?_ (size_alloc_le _ _) | refine Nat.le_trans ?_ (Nat.le_add_right _ _)))⟩
        have e1 : decide ((57 : Int) < ((s[k]).toNat : Int)) = false := by simp; omega
        have hs := Lib.hid (val_step hlt)
        have hw8 : IntKind.u8.wrap (((s[k]).toNat : Int) - 48) = ((s[k]).toNat : Int) - 48 := by simp [IntKind.wrap, IntKind.signed, IntKind.bits]; omega
        go_wp2
        go_roundw
        case rel => exact ⟨k + 1, 10 * n + (((s[k]).toNat : Int) - 48), (by repeat (with_reducible first | exact hbD | exact Below.refl _ _ | refine bw_later ?_ _ | refine bw_alloc ?_ _ | refine bw_drew ?_ | refine bw_set ?_ (Nat.le_refl _) _ | refine bw_set ?_ ?_ _ | exact Nat.le_refl _ | exact later_size _ _ | refine Nat.le_trans ?_ (later_size _ _) | refine Nat.le_trans ?_ (size_alloc_le _ _) | refine Nat.le_trans ?_ (Nat.le_add_right _ _))), by omega, by go_num, by first | rfl | go_num, by omega, by omega, Lib.hid (by rw [hs.out, ← hv.out]), Lib.hid fun j hj h => by
          rcases Nat.lt_or_ge j k with h' | h'
          · exact hd.out j hj h'
          · obtain rfl : j = k := by omega
            exact ⟨by omega, by omega⟩⟩
        case measure => simp [intOf]; omega
      · obtain rfl : k = s.size := by omega
        have hv2 : Hid (n = valL (bodyL s)) := Lib.hid (by rw [hv.out, HB.out, List.take_of_length_le (by simp)])
        cases hq : ((numB (n)).toList == s.toList)
        · have hfin := Lib.hid (show readF s = (0, false) from read_num (by
            rw [HN.out]
            simp only [Bool.false_eq_true, if_false, ← hv2.out]
            rw [str_eq] at hq
            simpa using hq))
          go_wp2_with (go_at_call 33; (first | refine (num_any (n) (by omega) (by omega) _).onL ?_ | refine (num_any (n) (by omega) (by omega) _).on ?_); intro xq)
          go_ret2
          exact ⟨by rw [hfin.out]; try rfl, (by repeat (with_reducible first | exact hbD | exact Below.refl _ _ | refine bw_later ?_ _ | refine bw_alloc ?_ _ | refine bw_drew ?_ | refine bw_set ?_ (Nat.le_refl _) _ | refine bw_set ?_ ?_ _ | exact Nat.le_refl _ | exact later_size _ _ | refine Nat.le_trans ?_ (later_size _ _) | refine Nat.le_trans ?_ (size_alloc_le _ _) | refine Nat.le_trans ?_ (Nat.le_add_right _ _)))⟩
        · have hfin := Lib.hid (show readF s = (n, true) from readF_some (by omega) (by omega) (by rw [str_eq] at hq; simpa using hq))
          go_wp2_with (go_at_call 33; (first | refine (num_any (n) (by omega) (by omega) _).onL ?_ | refine (num_any (n) (by omega) (by omega) _).on ?_); intro xq)
          go_ret2
          exact ⟨by rw [hfin.out]; try rfl, (by repeat (with_reducible first | exact hbD | exact Below.refl _ _ | refine bw_later ?_ _ | refine bw_alloc ?_ _ | refine bw_drew ?_ | refine bw_set ?_ (Nat.le_refl _) _ | refine bw_set ?_ ?_ _ | exact Nat.le_refl _ | exact later_size _ _ | refine Nat.le_trans ?_ (later_size _ _) | refine Nat.le_trans ?_ (size_alloc_le _ _) | refine Nat.le_trans ?_ (Nat.le_add_right _ _)))⟩
  have e45 : (((s[0]'(by omega)).toNat : Int) == 45) = true := by simp; omega
  rw [decide_eq_true hc] at hN
  obtain ⟨T, hT⟩ : ∃ T, s.extract 1 s.size = T := ⟨_, rfl⟩
  have hB := body_yes hN hT
  have hTs : T.size < s.size := by rw [← hT, ByteArray.size_extract]; omega
  have hTl : decide ((T.size : Int) < (s.size : Int)) = true := by simp; omega
  have hsz : T.size = (bodyL s).length := by rw [hB]; simp
  cases hI : inB (T.size : Int) 1 6
  · have hfin := Lib.hid (show readF s = (0, false) from read_len (by have := inB_f hI; omega))
    clear hB hsz
    go_enter Tryd.func44, Tryd.ntmps44
    go_wp2_with (go_at_call 32; (first | refine (in_any _ _ _ _).onL ?_ | refine (in_any _ _ _ _).on ?_); intro xq)
    all_goals (go_ret2; exact ⟨by rw [hfin.out]; try rfl, (by repeat (with_reducible first | exact hbD | exact Below.refl _ _ | refine bw_later ?_ _ | refine bw_alloc ?_ _ | refine bw_drew ?_ | refine bw_set ?_ (Nat.le_refl _) _ | refine bw_set ?_ ?_ _ | exact Nat.le_refl _ | exact later_size _ _ | refine Nat.le_trans ?_ (later_size _ _) | refine Nat.le_trans ?_ (size_alloc_le _ _) | refine Nat.le_trans ?_ (Nat.le_add_right _ _)))⟩)
  obtain ⟨i1, i6⟩ := inB_t hI
  have HB := Lib.hid hB
  have HN := Lib.hid hN
  clear hB hsz hN
  go_enter Tryd.func44, Tryd.ntmps44
  go_wp2_with (go_at_call 32; (first | refine (in_any _ _ _ _).onL ?_ | refine (in_any _ _ _ _).on ?_); intro xq)
  clear hI
  go_loopw [5, 6] (fun nv i wr => ∃ (k : Nat) (n : Int), Below w.heap.size w wr ∧ k ≤ T.size ∧ i = .int .i64 (k : Int) ∧ nv = .int .i64 n ∧ 0 ≤ n ∧ n < 1000000 ∧ Hid (n = valL (T.data.toList.take k)) ∧ Hid (∀ j (hj : j < T.size), j < k → 48 ≤ (T[j]).toNat ∧ (T[j]).toNat ≤ 57)) (fun _ i _ => T.size - (intOf i).toNat)
  case atStart => exact ⟨0, 0, (by repeat (with_reducible first | exact hbD | exact Below.refl _ _ | refine bw_later ?_ _ | refine bw_alloc ?_ _ | refine bw_drew ?_ | refine bw_set ?_ (Nat.le_refl _) _ | refine bw_set ?_ ?_ _ | exact Nat.le_refl _ | exact later_size _ _ | refine Nat.le_trans ?_ (later_size _ _) | refine Nat.le_trans ?_ (size_alloc_le _ _) | refine Nat.le_trans ?_ (Nat.le_add_right _ _))), by omega, rfl, rfl, by omega, by omega, Lib.hid (by simp [valL]), Lib.hid fun j _ h => absurd h (by omega)⟩
  case round =>
    obtain ⟨k, n, hb, hk, rfl, rfl, n0, n1, hv, hd⟩ := hrel
    obtain ⟨y, rfl⟩ := exists_later hb
    clear hb
    by_cases hlt : k < T.size
    · have hbyte : (T[k]).toNat < 256 := UInt8.toNat_lt _
      have n2 : n < 100000 := by
        have := (val_bd hk hd.out).2
        rw [← hv.out] at this
        have := pow_bd (m := 5) this (by omega)
        omega
      by_cases p0 : (T[k]).toNat < 48
      · have hfin := Lib.hid (show readF s = (0, false) from read_dig (at_mem HB.out hlt) (by omega))
        have e : decide (((T[k]).toNat : Int) < 48) = true := by simp; omega
        go_wp2
        go_ret2
        exact ⟨by rw [hfin.out]; try rfl, (by repeat (with_reducible first | exact hbD | exact Below.refl _ _ | refine bw_later ?_ _ | refine bw_alloc ?_ _ | refine bw_drew ?_ | refine bw_set ?_ (Nat.le_refl _) _ | refine bw_set ?_ ?_ _ | exact Nat.le_refl _ | exact later_size _ _ | refine Nat.le_trans ?_ (later_size _ _) | refine Nat.le_trans ?_ (size_alloc_le _ _) | refine Nat.le_trans ?_ (Nat.le_add_right _ _)))⟩
      have e0 : decide (((T[k]).toNat : Int) < 48) = false := by simp; omega
      by_cases p1 : 57 < (T[k]).toNat
      · have hfin := Lib.hid (show readF s = (0, false) from read_dig (at_mem HB.out hlt) (by omega))
        have e : decide ((57 : Int) < ((T[k]).toNat : Int)) = true := by simp; omega
        go_wp2
        go_ret2
        exact ⟨by rw [hfin.out]; try rfl, (by repeat (with_reducible first | exact hbD | exact Below.refl _ _ | refine bw_later ?_ _ | refine bw_alloc ?_ _ | refine bw_drew ?_ | refine bw_set ?_ (Nat.le_refl _) _ | refine bw_set ?_ ?_ _ | exact Nat.le_refl _ | exact later_size _ _ | refine Nat.le_trans ?_ (later_size _ _) | refine Nat.le_trans ?_ (size_alloc_le _ _) | refine Nat.le_trans ?_ (Nat.le_add_right _ _)))⟩
      have e1 : decide ((57 : Int) < ((T[k]).toNat : Int)) = false := by simp; omega
      have hs := Lib.hid (val_step hlt)
      have hw8 : IntKind.u8.wrap (((T[k]).toNat : Int) - 48) = ((T[k]).toNat : Int) - 48 := by simp [IntKind.wrap, IntKind.signed, IntKind.bits]; omega
      go_wp2
      go_roundw
      case rel => exact ⟨k + 1, 10 * n + (((T[k]).toNat : Int) - 48), (by repeat (with_reducible first | exact hbD | exact Below.refl _ _ | refine bw_later ?_ _ | refine bw_alloc ?_ _ | refine bw_drew ?_ | refine bw_set ?_ (Nat.le_refl _) _ | refine bw_set ?_ ?_ _ | exact Nat.le_refl _ | exact later_size _ _ | refine Nat.le_trans ?_ (later_size _ _) | refine Nat.le_trans ?_ (size_alloc_le _ _) | refine Nat.le_trans ?_ (Nat.le_add_right _ _))), by omega, by go_num, by first | rfl | go_num, by omega, by omega, Lib.hid (by rw [hs.out, ← hv.out]), Lib.hid fun j hj h => by
        rcases Nat.lt_or_ge j k with h' | h'
        · exact hd.out j hj h'
        · obtain rfl : j = k := by omega
          exact ⟨by omega, by omega⟩⟩
      case measure => simp [intOf]; omega
    · obtain rfl : k = T.size := by omega
      have hv2 : Hid (n = valL (bodyL s)) := Lib.hid (by rw [hv.out, HB.out, List.take_of_length_le (by simp)])
      cases hq : ((numB (-n)).toList == s.toList)
      · have hfin := Lib.hid (show readF s = (0, false) from read_num (by
          rw [HN.out]
          simp only [if_true, ← hv2.out]
          rw [str_eq] at hq
          simpa using hq))
        go_wp2_with (go_at_call 33; (first | refine (num_any (-n) (by omega) (by omega) _).onL ?_ | refine (num_any (-n) (by omega) (by omega) _).on ?_); intro xq)
        go_ret2
        exact ⟨by rw [hfin.out]; try rfl, (by repeat (with_reducible first | exact hbD | exact Below.refl _ _ | refine bw_later ?_ _ | refine bw_alloc ?_ _ | refine bw_drew ?_ | refine bw_set ?_ (Nat.le_refl _) _ | refine bw_set ?_ ?_ _ | exact Nat.le_refl _ | exact later_size _ _ | refine Nat.le_trans ?_ (later_size _ _) | refine Nat.le_trans ?_ (size_alloc_le _ _) | refine Nat.le_trans ?_ (Nat.le_add_right _ _)))⟩
      · have hfin := Lib.hid (show readF s = (-n, true) from readF_some (by omega) (by omega) (by rw [str_eq] at hq; simpa using hq))
        go_wp2_with (go_at_call 33; (first | refine (num_any (-n) (by omega) (by omega) _).onL ?_ | refine (num_any (-n) (by omega) (by omega) _).on ?_); intro xq)
        go_ret2
        exact ⟨by rw [hfin.out]; try rfl, (by repeat (with_reducible first | exact hbD | exact Below.refl _ _ | refine bw_later ?_ _ | refine bw_alloc ?_ _ | refine bw_drew ?_ | refine bw_set ?_ (Nat.le_refl _) _ | refine bw_set ?_ ?_ _ | exact Nat.le_refl _ | exact later_size _ _ | refine Nat.le_trans ?_ (later_size _ _) | refine Nat.le_trans ?_ (size_alloc_le _ _) | refine Nat.le_trans ?_ (Nat.le_add_right _ _)))⟩
end Go.Proofs.YteakffedlojcmaaDoor
