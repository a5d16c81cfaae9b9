/- The string of a string with its checksum. -/
import Derived.Test.YteakffedlojcmaaDoorSeal
import Derived.Test.YteakffedlojcmaaDoorSplit
import Derived.Test.YteakffedlojcmaaDoorMaxLen
import Derived.Test.YteakffedlojcmaaDoorShelfCut
namespace Go.Proofs.YteakffedlojcmaaDoor
open Go.RowKit
theorem index_one (b c : UInt8) (l : List UInt8) : Lib.index (b :: l) [c] = if b = c then 0 else if Lib.index l [c] == -1 then -1 else Lib.index l [c] + 1 := by
  rw [Lib.index]
  by_cases h : b = c
  · subst h; simp [List.isPrefixOf]
  · have h' : (c == b) = false := by simpa using fun e => h e.symm
    simp [List.isPrefixOf, h, h']
theorem cut_one (c : UInt8) : ∀ l : List UInt8, (Lib.cut l [c]).1 = l.takeWhile (· ≠ c)
  | [] => by simp [Lib.cut, Lib.index]
  | b :: l => by
    have ih := cut_one c l
    have hg := Lib.index_ge l [c]
    unfold Lib.cut at ih ⊢
    rw [index_one]
    by_cases h : b = c
    · simp [h]
    · rw [if_neg h]
      by_cases h0 : 0 ≤ Lib.index l [c]
      · rw [if_pos h0] at ih
        have h1 : (Lib.index l [c] == -1) = false := by simp; omega
        simp only [h1, Bool.false_eq_true, if_false]
        rw [if_pos (by omega)]
        have e : (Lib.index l [c] + 1).toNat = (Lib.index l [c]).toNat + 1 := by omega
        simp only at ih ⊢
        rw [e, List.take_succ_cons, ih]
        simp [h]
      · rw [if_neg h0] at ih
        have h1 : (Lib.index l [c] == -1) = true := by simp; omega
        simp only [h1, if_true]
        rw [if_neg (by decide)]
        simp only at ih ⊢
        rw [List.takeWhile_cons]
        simp only [h, ne_eq, not_false_eq_true, decide_true, if_true]
        rw [← ih]
def headB (s : ByteArray) : ByteArray := mkB (s.data.toList.takeWhile (· ≠ 35))
theorem headB_size (s : ByteArray) : (headB s).size ≤ s.size := by
  unfold headB
  rw [mkB_size]
  have := (List.takeWhile_sublist (l := s.data.toList) (· ≠ (35 : UInt8))).length_le
  simpa using this
theorem headB_no (s : ByteArray) : hasB (headB s) 35 = false := by
  unfold hasB headB
  rw [mkB_data, Bool.eq_false_iff, ne_eq, List.contains_iff_mem]
  intro h
  have := List.all_eq_true.1 (List.all_takeWhile (p := fun x : UInt8 => decide (x ≠ 35)) (l := s.data.toList)) _ h
  simp at this
theorem cut_any (s : ByteArray) (hs : s.size ≤ 1048576) (w : World) (hm : Mx w) : Gv Tryd.prog 43 #[.string s, .string ⟨#[35]⟩] w (.tuple #[.string (headB s), .string ⟨(Lib.cut s.data.toList [35]).2.1.toArray⟩, .bool (Lib.cut s.data.toList [35]).2.2]) := by
  obtain ⟨m, hm⟩ := hm
  refine Calls.mono (Tryd.strings_Cut s ⟨#[35]⟩ m w (by omega) hm) fun e w' ⟨he, n, hw⟩ => ⟨?_, by subst hw; exact below_drewN (Below.refl _ _) n⟩
  rw [he]
  have e : headB s = ⟨(Lib.cut s.data.toList [35]).1.toArray⟩ := by rw [cut_one]; rfl
  rw [e]
def verF (s : ByteArray) : ByteArray × Bool := if s.size ≤ 4000 ∧ sealB (headB s) = s then (headB s, true) else (⟨#[]⟩, false)
theorem i_Verify_any (s : ByteArray) (hs : s.size ≤ 1048576) (w : World) (ht : Tab w) (hm : Mx w) : Gv Tryd.prog 20 #[.string s] w (.tuple #[.string (verF s).1, .bool (verF s).2]) := by
  unfold Gv
  have es := sealB_size (headB s)
  have hno := headB_no s
  by_cases hg : (headB s).size ≤ 4000 ∧ (sealB (headB s)).size ≤ 4000
  · have hc : Hid (∀ w, Tab w → Gv Tryd.prog 18 #[.string (headB s)] w (.tuple #[.string (sealB (headB s)), .bool true])) := Lib.hid fun w ht => by
      have := i_Append_any (headB s) w ht
      have e : appF (headB s) = (sealB (headB s), true) := by simp [appF, hg.1, hg.2, hno]
      rw [e] at this
      exact this
    by_cases hq : sealB (headB s) = s
    · have hfin := Lib.hid (show verF s = (headB s, true) by
        have : s.size ≤ 4000 := by have := hg.2; rw [hq] at this; exact this
        simp [verF, hq, this])
      have h1 : ((sealB (headB s)).toList == s.toList) = true := by rw [str_eq]; simpa using hq
      clear hq hg es hno
      go_enter Tryd.func20, Tryd.ntmps20
      go_wp2_with (first | (go_at_call 43; (first | refine (cut_any s hs _ hm).onL ?_ | refine (cut_any s hs _ hm).on ?_); intro xq) | (go_at_call 18; (first | refine (hc.out _ (ht.later _)).onL ?_ | refine (hc.out _ (ht.later _)).on ?_); intro xq))
      all_goals (go_ret2; exact ⟨by rw [hfin.out]; try rfl, (by repeat (with_reducible first | exact Below.refl _ _ | refine bw_later ?_ _ | refine bw_alloc ?_ _ | refine bw_drew ?_ | refine bw_set ?_ (Nat.le_refl _) _ | refine bw_set ?_ ?_ _ | exact Nat.le_refl _ | exact later_size _ _ | refine Nat.le_trans ?_ (later_size _ _) | refine Nat.le_trans ?_ (size_alloc_le _ _) | refine Nat.le_trans ?_ (Nat.le_add_right _ _)))⟩)
    · have hfin := Lib.hid (show verF s = (⟨#[]⟩, false) by simp [verF, hq])
      have h1 : ((sealB (headB s)).toList == s.toList) = false := by rw [str_eq]; simpa using hq
      clear hq hg es hno
      go_enter Tryd.func20, Tryd.ntmps20
      go_wp2_with (first | (go_at_call 43; (first | refine (cut_any s hs _ hm).onL ?_ | refine (cut_any s hs _ hm).on ?_); intro xq) | (go_at_call 18; (first | refine (hc.out _ (ht.later _)).onL ?_ | refine (hc.out _ (ht.later _)).on ?_); intro xq))
      all_goals (go_ret2; exact ⟨by rw [hfin.out]; try rfl, (by repeat (with_reducible first | exact Below.refl _ _ | refine bw_later ?_ _ | refine bw_alloc ?_ _ | refine bw_drew ?_ | refine bw_set ?_ (Nat.le_refl _) _ | refine bw_set ?_ ?_ _ | exact Nat.le_refl _ | exact later_size _ _ | refine Nat.le_trans ?_ (later_size _ _) | refine Nat.le_trans ?_ (size_alloc_le _ _) | refine Nat.le_trans ?_ (Nat.le_add_right _ _)))⟩)
  · have hc : Hid (∀ w, Tab w → Gv Tryd.prog 18 #[.string (headB s)] w (.tuple #[.string ⟨#[]⟩, .bool false])) := Lib.hid fun w ht => by
      have := i_Append_any (headB s) w ht
      have e : appF (headB s) = (⟨#[]⟩, false) := by
        unfold appF
        rw [if_neg]
        intro h
        exact hg ⟨h.1, h.2.2⟩
      rw [e] at this
      exact this
    have hfin := Lib.hid (show verF s = (⟨#[]⟩, false) by
      unfold verF
      rw [if_neg]
      intro h
      refine hg ⟨by have := headB_size s; omega, by rw [h.2]; exact h.1⟩)
    clear hg es hno
    go_enter Tryd.func20, Tryd.ntmps20
    go_wp2_with (first | (go_at_call 43; (first | refine (cut_any s hs _ hm).onL ?_ | refine (cut_any s hs _ hm).on ?_); intro xq) | (go_at_call 18; (first | refine (hc.out _ (ht.later _)).onL ?_ | refine (hc.out _ (ht.later _)).on ?_); intro xq))
    all_goals (go_ret2; exact ⟨by rw [hfin.out]; try rfl, (by repeat (with_reducible first | exact Below.refl _ _ | refine bw_later ?_ _ | refine bw_alloc ?_ _ | refine bw_drew ?_ | refine bw_set ?_ (Nat.le_refl _) _ | refine bw_set ?_ ?_ _ | exact Nat.le_refl _ | exact later_size _ _ | refine Nat.le_trans ?_ (later_size _ _) | refine Nat.le_trans ?_ (size_alloc_le _ _) | refine Nat.le_trans ?_ (Nat.le_add_right _ _)))⟩)
theorem s_Verify_any (s : ByteArray) (w : World) : Gv Tryd.prog 19 #[.string s] w (.tuple #[.string (verF s).1, .bool (verF s).2]) := by
  unfold Gv
  by_cases h1 : s.size ≤ 4000
  rotate_left
  · have hfin := Lib.hid (show verF s = (⟨#[]⟩, false) by simp [verF, h1])
    have h2 : 4000 < s.size := by omega
    go_enter Tryd.func19, Tryd.ntmps19
    go_wp2_with fail
    all_goals (go_ret2; exact ⟨by rw [hfin.out]; try rfl, (by repeat (with_reducible first | exact Below.refl _ _ | refine bw_later ?_ _ | refine bw_alloc ?_ _ | refine bw_drew ?_ | refine bw_set ?_ (Nat.le_refl _) _ | refine bw_set ?_ ?_ _ | exact Nat.le_refl _ | exact later_size _ _ | refine Nat.le_trans ?_ (later_size _ _) | refine Nat.le_trans ?_ (size_alloc_le _ _) | refine Nat.le_trans ?_ (Nat.le_add_right _ _)))⟩)
  have h1' : decide (4000 < (s.size : Int)) = false := by simp; omega
  have h3 : (headB s).size ≤ 4000 := by have := headB_size s; omega
  have hsp := splitS_pos s 35
  have hlen := splitS_len s 35
  have h0 : (splitS s 35)[0]? = some (headB s) := by
    unfold splitS
    rw [List.getElem?_map, splitL_head]
    rfl
  have H0 := Lib.hid h0
  clear h0
  cases hq : ((sealB (headB s)).toList == s.toList)
  rotate_left
  · have hfin := Lib.hid (show verF s = (headB s, true) by
      have hq' : sealB (headB s) = s := by rw [str_eq] at hq; simpa using hq
      simp [verF, h1, hq'])
    go_enter Tryd.func19, Tryd.ntmps19
    go_wp2_with (first | (go_at_call 36; refine Calls.mono (split_any s 35 _ rfl (by omega) _) ?_; rintro _ w1 ⟨g, cap, rfl, hg, hown, hb⟩; have hcell := Lib.hid (hown.cells (g := g) rfl); obtain ⟨y, rfl⟩ := exists_later hb; clear hb hown; have c0 : (later w y).cell? ⟨g, 0, none⟩ = some (.string (headB s)) := (by have := hcell.out 0 (.string (headB s)) (by rw [List.getElem?_map, H0.out]; rfl); simpa [Addr.add] using this)) | (go_at_call 40; (first | refine (seal_any (headB s) h3 _).onL ?_ | refine (seal_any (headB s) h3 _).on ?_); intro xq))
    all_goals (go_ret2; exact ⟨by rw [hfin.out]; try rfl, (by repeat (with_reducible first | exact Below.refl _ _ | refine bw_later ?_ _ | refine bw_alloc ?_ _ | refine bw_drew ?_ | refine bw_set ?_ (Nat.le_refl _) _ | refine bw_set ?_ ?_ _ | exact Nat.le_refl _ | exact later_size _ _ | refine Nat.le_trans ?_ (later_size _ _) | refine Nat.le_trans ?_ (size_alloc_le _ _) | refine Nat.le_trans ?_ (Nat.le_add_right _ _)))⟩)
  · have hfin := Lib.hid (show verF s = (⟨#[]⟩, false) by
      have hq' : ¬ sealB (headB s) = s := by rw [str_eq] at hq; simpa using hq
      simp [verF, hq'])
    go_enter Tryd.func19, Tryd.ntmps19
    go_wp2_with (first | (go_at_call 36; refine Calls.mono (split_any s 35 _ rfl (by omega) _) ?_; rintro _ w1 ⟨g, cap, rfl, hg, hown, hb⟩; have hcell := Lib.hid (hown.cells (g := g) rfl); obtain ⟨y, rfl⟩ := exists_later hb; clear hb hown; have c0 : (later w y).cell? ⟨g, 0, none⟩ = some (.string (headB s)) := (by have := hcell.out 0 (.string (headB s)) (by rw [List.getElem?_map, H0.out]; rfl); simpa [Addr.add] using this)) | (go_at_call 40; (first | refine (seal_any (headB s) h3 _).onL ?_ | refine (seal_any (headB s) h3 _).on ?_); intro xq))
    all_goals (go_ret2; exact ⟨by rw [hfin.out]; try rfl, (by repeat (with_reducible first | exact Below.refl _ _ | refine bw_later ?_ _ | refine bw_alloc ?_ _ | refine bw_drew ?_ | refine bw_set ?_ (Nat.le_refl _) _ | refine bw_set ?_ ?_ _ | exact Nat.le_refl _ | exact later_size _ _ | refine Nat.le_trans ?_ (later_size _ _) | refine Nat.le_trans ?_ (size_alloc_le _ _) | refine Nat.le_trans ?_ (Nat.le_add_right _ _)))⟩)
theorem law_VerifyChecksum (a : ByteArray) (w : World) (_h0 : a.size ≤ maxLen) (ht : Tab w) (hm : Mx w) : Gv Tryd.prog 6 #[.string a] w (.bool true) := by
  unfold Gv
  by_cases hs : a.size ≤ 1048576
  · have h1 : decide ((1048576 : Int) < (a.size : Int)) = false := by simp; omega
    go_enter Tryd.func6, Tryd.ntmps6
    go_wp2_with (first | (go_at_call 19; (first | refine (s_Verify_any _ _).onL ?_ | refine (s_Verify_any _ _).on ?_); intro xq) | (go_at_call 20; (first | refine (i_Verify_any _ hs _ (ht.later _) (hm.later _)).onL ?_ | refine (i_Verify_any _ hs _ (ht.later _) (hm.later _)).on ?_); intro xq))
    all_goals (go_ret; exact ⟨rfl, (by repeat (with_reducible first | exact Below.refl _ _ | refine bw_later ?_ _ | refine bw_alloc ?_ _ | refine bw_drew ?_ | refine bw_set ?_ (Nat.le_refl _) _ | refine bw_set ?_ ?_ _ | exact Nat.le_refl _ | exact later_size _ _ | refine Nat.le_trans ?_ (later_size _ _) | refine Nat.le_trans ?_ (size_alloc_le _ _) | refine Nat.le_trans ?_ (Nat.le_add_right _ _)))⟩)
  · have h1 : decide ((1048576 : Int) < (a.size : Int)) = true := by simp; omega
    go_enter Tryd.func6, Tryd.ntmps6
    go_wp2_with fail
    all_goals (go_ret; exact ⟨rfl, (by repeat (with_reducible first | exact Below.refl _ _ | refine bw_later ?_ _ | refine bw_alloc ?_ _ | refine bw_drew ?_ | refine bw_set ?_ (Nat.le_refl _) _ | refine bw_set ?_ ?_ _ | exact Nat.le_refl _ | exact later_size _ _ | refine Nat.le_trans ?_ (later_size _ _) | refine Nat.le_trans ?_ (size_alloc_le _ _) | refine Nat.le_trans ?_ (Nat.le_add_right _ _)))⟩)
end Go.Proofs.YteakffedlojcmaaDoor
