/- The numbers between separators: the program. -/
import Derived.Test.YteakffedlojcmaaDoorParse
import Derived.Test.YteakffedlojcmaaDoorSplitLib
import Derived.Test.YteakffedlojcmaaDoorPLineP
import Derived.Test.YteakffedlojcmaaDoorPushK
import Derived.Test.YteakffedlojcmaaDoorJoin
namespace Go.Proofs.YteakffedlojcmaaDoor
open Go.RowKit
theorem infoInt : (Tryd.prog.info? 3).map (fun i => (i.zero, i.size, i.bytes)) = some (some (.int .i64 0), 1, 8) := by kernel_rfl
theorem own_lower {w : World} {base base' T size n : Nat} {v : Value} {xs : List Value} (h : w.ownsRow base T size v n xs) (h' : base' ≤ base) : w.ownsRow base' T size v n xs :=
  ⟨h.1, h.2.imp id fun ⟨g, cap, cur, e, hb, r⟩ => ⟨g, cap, cur, e, by omega, r⟩⟩
theorem splitL_each (c : UInt8) : ∀ l : List UInt8, ∀ p ∈ splitL c l, p.length ≤ l.length
  | [], p, h => by simp [splitL] at h; subst h; simp
  | b :: r, p, h => by
    have ih := splitL_each c r
    unfold splitL at h
    split at h
    · rcases List.mem_cons.1 h with rfl | h
      · simp
      · have := ih p h
        simp; omega
    · split at h
      · rename_i q qs e
        rw [e] at ih
        rcases List.mem_cons.1 h with rfl | h
        · have := ih q (by simp)
          simp; omega
        · have := ih p (by simp [h])
          simp; omega
      · simp at h
        subst h
        simp
theorem splitS_each {s p : ByteArray} {c : UInt8} {k : Nat} (h : (splitS s c)[k]? = some p) : p.size ≤ s.size := by
  unfold splitS at h
  rw [List.getElem?_map] at h
  obtain ⟨l, hl, rfl⟩ := Option.map_eq_some_iff.1 h
  have := splitL_each c s.data.toList l (List.mem_of_getElem? hl)
  rw [mkB_size]
  have e : s.data.toList.length = s.size := by simp
  omega
noncomputable def numsTo (ps : List ByteArray) (k : Nat) : List Int := (ps.take k).map (fun p => (readF p).1)
theorem nums_step {ps : List ByteArray} {k : Nat} {p : ByteArray} (h : ps[k]? = some p) : numsTo ps (k + 1) = numsTo ps k ++ [(readF p).1] := by simp [numsTo, List.take_add_one, h]
theorem rn_len {s : ByteArray} {c : UInt8} {k : Nat} (h : (splitS s c).length ≠ k) : rnF s c k = ([], false) := by simp [rnF, h]
theorem rn_bad {s p : ByteArray} {c : UInt8} {k j : Nat} (hp : (splitS s c)[j]? = some p) (h : (readF p).2 = false) : rnF s c k = ([], false) := by
  unfold rnF
  rw [if_neg]
  rintro ⟨_, h1⟩
  have := List.all_eq_true.1 h1 p (List.mem_of_getElem? hp)
  rw [h] at this
  cases this
theorem rn_good {s : ByteArray} {c : UInt8} (h : ∀ p ∈ (splitS s c).take (splitS s c).length, (readF p).2 = true) : rnF s c (splitS s c).length = (numsTo (splitS s c) (splitS s c).length, true) := by
  rw [List.take_length] at h
  unfold rnF numsTo
  rw [if_pos ⟨rfl, List.all_eq_true.2 h⟩, List.take_length]
/-- The texts that a row of a call's own holds. -/
theorem strs_cells {w' : World} {base n cap g : Nat} {ps : List ByteArray} (h : w'.ownsRow base 9 1 (.slice (some ⟨g, 0, none⟩) n cap) n (ps.map Value.string)) : ∀ (j : Nat) (p : ByteArray), ps[j]? = some p → w'.cell? ⟨g, j, none⟩ = some (.string p) := fun j p hp => by
  have := h.cells (g := g) rfl j (.string p) (by rw [List.getElem?_map, hp]; rfl)
  have e1 : (⟨g, 0, none⟩ : Addr).add j = ⟨g, j, none⟩ := by unfold Addr.add; split <;> simp_all
  rwa [e1] at this
set_option maxHeartbeats 1000000 in
theorem rnum_any (s : ByteArray) (c : UInt8) (k : Nat) (hs : s.size ≤ 1048576) (hk : k ≤ 1048576) (w : World) (ht : Tab w) (he : Ers w) (hm : Mx w) : GI Tryd.prog 52 #[.string s, .string ⟨#[c]⟩, .int .i64 (k : Int)] w (rnF s c k) := by
  unfold GI
  obtain ⟨i0, hi, hz0, hz1, hz2⟩ := info_parts infoInt
  have Hi := Lib.hid hi
  have Hz0 := Lib.hid hz0
  have Hz1 := Lib.hid hz1
  have Hz2 := Lib.hid hz2
  clear hi hz0 hz1 hz2
  have hl0 := splitS_len s c
  have hp0 := splitS_pos s c
  by_cases hkl : (splitS s c).length = k
  rotate_left
  · have hfin := Lib.hid (rn_len hkl)
    have h1 : (((splitS s c).length : Int) == (k : Int)) = false := by rw [beq_eq_false_iff_ne]; omega
    have h2 : (((splitS s c).length : Int) != (k : Int)) = true := by rw [bne_iff_ne]; omega
    clear hkl
    go_enter Tryd.func52, Tryd.ntmps52
    go_wp2_with (go_at_call 37; refine Calls.mono (splitlib_any s c hs _ hm) ?_; rintro _ w1 ⟨g, cap, rfl, hg, hown, hb⟩; obtain ⟨y, rfl⟩ := exists_later hb; clear hb hown)
    all_goals (go_ret2; rw [hfin.out]; exact IntsB.none_ (by repeat (with_reducible first | exact hbD | exact Below.refl _ _ | refine bw_later ?_ _ | refine bw_alloc ?_ _ | refine bw_drew ?_ | refine bw_set ?_ (Nat.le_refl _) _ | refine bw_set ?_ ?_ _ | exact Nat.le_refl _ | exact later_size _ _ | refine Nat.le_trans ?_ (later_size _ _) | refine Nat.le_trans ?_ (size_alloc_le _ _) | refine Nat.le_trans ?_ (Nat.le_add_right _ _))))
  · subst hkl
    have HE := Lib.hid (rn_good (s := s) (c := c))
    have HB := Lib.hid (fun (j : Nat) (p : ByteArray) (hp : (splitS s c)[j]? = some p) (h : (readF p).2 = false) => rn_bad (k := (splitS s c).length) hp h)
    obtain ⟨R, hR⟩ : ∃ R, rnF s c (splitS s c).length = R := ⟨_, rfl⟩
    rw [hR] at HE HB ⊢
    clear hR
    have hsp := Lib.hid (fun w hm => splitlib_any s c hs w hm)
    generalize splitS s c = ps at *
    go_enter Tryd.func52, Tryd.ntmps52
    go_wp2_with (go_at_call 37; refine Calls.mono (hsp.out _ hm) ?_; rintro _ w1 ⟨g, cap, rfl, hg, hown, hb⟩; have hC := Lib.hid (strs_cells hown); have ht1 := ht.keep hb; have he1 := he.keep hb; have hgl : g < w1.heap.size := (own_slice hown hp0).elim fun g' ⟨_, e, _, h⟩ => (by simp only [Value.slice.injEq, Option.some.injEq, Addr.mk.injEq] at e; rw [e.1.1]; exact h); have HB1 := Lib.hid hb; clear hown hb)
    go_loopw [9, 24] (fun t i wr => ∃ j : Nat, Below w1.heap.size w1 wr ∧ j ≤ ps.length ∧ i = .int .i64 (j : Int) ∧ wr.ownsRow w1.heap.size 3 1 t j ((numsTo ps j).map (Value.int .i64)) ∧ Hid (∀ p ∈ ps.take j, (readF p).2 = true)) (fun _ i _ => ps.length - (intOf i).toNat)
    case atStart => exact ⟨0, (by repeat (with_reducible first | exact hbD | exact Below.refl _ _ | refine bw_later ?_ _ | refine bw_alloc ?_ _ | refine bw_drew ?_ | refine bw_set ?_ (Nat.le_refl _) _ | refine bw_set ?_ ?_ _ | exact Nat.le_refl _ | exact later_size _ _ | refine Nat.le_trans ?_ (later_size _ _) | refine Nat.le_trans ?_ (size_alloc_le _ _) | refine Nat.le_trans ?_ (Nat.le_add_right _ _))), by omega, rfl, World.ownsRow_made w1 #[] 0 (Nat.le_refl _) (by decide) rfl, Lib.hid (by simp)⟩
    case round =>
      obtain ⟨j, hbw, hj, rfl, hown, hall⟩ := hrel
      obtain ⟨y, rfl⟩ := exists_later hbw
      clear hbw
      by_cases hlt : j < ps.length
      · obtain ⟨p, hp⟩ : ∃ p, ps[j]? = some p := ⟨_, List.getElem?_eq_getElem hlt⟩
        have c0 := hC.out j p hp
        have HP := Lib.hid hp
        clear hp
        cases hr : (readF p).2
        · have hfin := Lib.hid (HB.out j p HP.out hr)
          go_wp2_with (go_at_call 22; (first | refine (i_Parse_any p _ (ht1.keep (by repeat (with_reducible first | exact hbD | exact Below.refl _ _ | refine bw_later ?_ _ | refine bw_alloc ?_ _ | refine bw_drew ?_ | refine bw_set ?_ (Nat.le_refl _) _ | refine bw_set ?_ ?_ _ | exact Nat.le_refl _ | exact later_size _ _ | refine Nat.le_trans ?_ (later_size _ _) | refine Nat.le_trans ?_ (size_alloc_le _ _) | refine Nat.le_trans ?_ (Nat.le_add_right _ _)))) (he1.keep (by repeat (with_reducible first | exact hbD | exact Below.refl _ _ | refine bw_later ?_ _ | refine bw_alloc ?_ _ | refine bw_drew ?_ | refine bw_set ?_ (Nat.le_refl _) _ | refine bw_set ?_ ?_ _ | exact Nat.le_refl _ | exact later_size _ _ | refine Nat.le_trans ?_ (later_size _ _) | refine Nat.le_trans ?_ (size_alloc_le _ _) | refine Nat.le_trans ?_ (Nat.le_add_right _ _))))).onL ?_ | refine (i_Parse_any p _ (ht1.keep (by repeat (with_reducible first | exact hbD | exact Below.refl _ _ | refine bw_later ?_ _ | refine bw_alloc ?_ _ | refine bw_drew ?_ | refine bw_set ?_ (Nat.le_refl _) _ | refine bw_set ?_ ?_ _ | exact Nat.le_refl _ | exact later_size _ _ | refine Nat.le_trans ?_ (later_size _ _) | refine Nat.le_trans ?_ (size_alloc_le _ _) | refine Nat.le_trans ?_ (Nat.le_add_right _ _)))) (he1.keep (by repeat (with_reducible first | exact hbD | exact Below.refl _ _ | refine bw_later ?_ _ | refine bw_alloc ?_ _ | refine bw_drew ?_ | refine bw_set ?_ (Nat.le_refl _) _ | refine bw_set ?_ ?_ _ | exact Nat.le_refl _ | exact later_size _ _ | refine Nat.le_trans ?_ (later_size _ _) | refine Nat.le_trans ?_ (size_alloc_le _ _) | refine Nat.le_trans ?_ (Nat.le_add_right _ _))))).on ?_); intro xq)
          go_ret2
          rw [hfin.out]
          exact IntsB.none_ (bw_trans HB1.out (by repeat (with_reducible first | exact hbD | exact Below.refl _ _ | refine bw_later ?_ _ | refine bw_alloc ?_ _ | refine bw_drew ?_ | refine bw_set ?_ (Nat.le_refl _) _ | refine bw_set ?_ ?_ _ | exact Nat.le_refl _ | exact later_size _ _ | refine Nat.le_trans ?_ (later_size _ _) | refine Nat.le_trans ?_ (size_alloc_le _ _) | refine Nat.le_trans ?_ (Nat.le_add_right _ _))))
        · have hall1 := Lib.hid (show ∀ q ∈ ps.take (j + 1), (readF q).2 = true by
            intro q hq
            rw [List.take_add_one, HP.out] at hq
            rcases List.mem_append.1 hq with hq | hq
            · exact hall.out q hq
            · simp at hq; subst hq; exact hr)
          go_wp2_with (first | (go_at_call 22; refine (i_Parse_any p _ (ht1.keep (by repeat (with_reducible first | exact hbD | exact Below.refl _ _ | refine bw_later ?_ _ | refine bw_alloc ?_ _ | refine bw_drew ?_ | refine bw_set ?_ (Nat.le_refl _) _ | refine bw_set ?_ ?_ _ | exact Nat.le_refl _ | exact later_size _ _ | refine Nat.le_trans ?_ (later_size _ _) | refine Nat.le_trans ?_ (size_alloc_le _ _) | refine Nat.le_trans ?_ (Nat.le_add_right _ _)))) (he1.keep (by repeat (with_reducible first | exact hbD | exact Below.refl _ _ | refine bw_later ?_ _ | refine bw_alloc ?_ _ | refine bw_drew ?_ | refine bw_set ?_ (Nat.le_refl _) _ | refine bw_set ?_ ?_ _ | exact Nat.le_refl _ | exact later_size _ _ | refine Nat.le_trans ?_ (later_size _ _) | refine Nat.le_trans ?_ (size_alloc_le _ _) | refine Nat.le_trans ?_ (Nat.le_add_right _ _))))).on ?_; intro xq) | (at_builtin; refine push_law rfl _ _ _ rfl i0 _ 1 8 Tryd.underlying65 Hi.out Hz0.out Hz1.out Hz2.out rfl (by decide) _ _ _ rfl (own_later hown _) (w0 := w1) (by repeat (with_reducible first | exact hbD | exact Below.refl _ _ | refine bw_later ?_ _ | refine bw_alloc ?_ _ | refine bw_drew ?_ | refine bw_set ?_ (Nat.le_refl _) _ | refine bw_set ?_ ?_ _ | exact Nat.le_refl _ | exact later_size _ _ | refine Nat.le_trans ?_ (later_size _ _) | refine Nat.le_trans ?_ (size_alloc_le _ _) | refine Nat.le_trans ?_ (Nat.le_add_right _ _))) _ (by simp) rfl rfl (by simp [Value.oneCell']) (by omega) (by omega) ?_; intro v1 y1 hown1))
          go_roundw
          case rel => exact ⟨j + 1, (by repeat (with_reducible first | exact hbD | exact Below.refl _ _ | refine bw_later ?_ _ | refine bw_alloc ?_ _ | refine bw_drew ?_ | refine bw_set ?_ (Nat.le_refl _) _ | refine bw_set ?_ ?_ _ | exact Nat.le_refl _ | exact later_size _ _ | refine Nat.le_trans ?_ (later_size _ _) | refine Nat.le_trans ?_ (size_alloc_le _ _) | refine Nat.le_trans ?_ (Nat.le_add_right _ _))), by omega, by go_num, by rw [nums_step HP.out, List.map_append]; exact hown1, hall1⟩
          case measure => simp [intOf]; omega
      · obtain rfl : j = ps.length := by omega
        have hfin := Lib.hid (HE.out hall.out)
        go_wp2
        go_ret2
        rw [hfin.out]
        exact IntsB.some_ (own_lower hown (by first | exact HB1.out.size | omega)) (by omega) (bw_trans HB1.out (by repeat (with_reducible first | exact hbD | exact Below.refl _ _ | refine bw_later ?_ _ | refine bw_alloc ?_ _ | refine bw_drew ?_ | refine bw_set ?_ (Nat.le_refl _) _ | refine bw_set ?_ ?_ _ | exact Nat.le_refl _ | exact later_size _ _ | refine Nat.le_trans ?_ (later_size _ _) | refine Nat.le_trans ?_ (size_alloc_le _ _) | refine Nat.le_trans ?_ (Nat.le_add_right _ _))))
end Go.Proofs.YteakffedlojcmaaDoor
