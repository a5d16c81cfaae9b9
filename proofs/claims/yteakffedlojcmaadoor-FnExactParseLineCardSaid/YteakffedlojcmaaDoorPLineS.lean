/- The line with a text: the reference. -/
import Derived.Test.YteakffedlojcmaaDoorPLine
namespace Go.Proofs.YteakffedlojcmaaDoor
open Go.RowKit
theorem supS_len {p : ByteArray} (h : (splitS p 58).length ≠ 2) : supS p = none := by
  unfold supS
  split
  · rename_i a b e
    rw [e] at h
    exact absurd rfl h
  · rfl
theorem two_of {l : List ByteArray} (h : l.length = 2) : ∃ a b, l = [a, b] := by
  match l, h with
  | [a, b], _ => exact ⟨a, b, rfl⟩
theorem supS_short {p a b : ByteArray} (h : splitS p 58 = [a, b]) (h2 : a.size < 2) : supS p = none := by
  unfold supS
  rw [h]
  simp only []
  rw [if_pos h2]
theorem supS_yes {p a b : ByteArray} (h : splitS p 58 = [a, b]) (h2 : ¬ a.size < 2) : supS p = some ⟨(readF (a.extract 1 a.size)).1, (readF b).1, decide (a.data.toList[0]? = some 83)⟩ := by
  unfold supS
  rw [h]
  simp only []
  rw [if_neg h2]
theorem readsS : Reads supS := fun _ h => supS_of h
set_option maxHeartbeats 4000000 in
set_option maxRecDepth 20000 in
theorem s_ParseLine_any (s : ByteArray) (w : World) : GSup Tryd.prog 28 #[.string s] w (plF s) := by
  unfold GSup
  by_cases hsz : s.size ≤ 120
  rotate_left
  · have hfin := Lib.hid (plF_long (s := s) (by omega))
    have h1 : decide ((120 : Int) < (s.size : Int)) = true := by simp; omega
    clear hsz
    go_enter Tryd.func28, Tryd.ntmps28
    go_wp2_with fail
    go_ret2
    rw [hfin.out]
    exact SupsB.none_ (by repeat (with_reducible first | exact hbD | exact Below.refl _ _ | refine bw_later ?_ _ | refine bw_alloc ?_ _ | refine bw_drew ?_ | refine bw_set ?_ (Nat.le_refl _) _ | refine bw_set ?_ ?_ _ | exact Nat.le_refl _ | exact later_size _ _ | refine Nat.le_trans ?_ (later_size _ _) | refine Nat.le_trans ?_ (size_alloc_le _ _) | refine Nat.le_trans ?_ (Nat.le_add_right _ _)))
  have h1 : decide ((120 : Int) < (s.size : Int)) = false := by simp; omega
  obtain ⟨i0, hi, hz0, hz1, hz2⟩ := info_parts infoSup
  have Hi := Lib.hid hi
  have Hz0 := Lib.hid hz0
  have Hz1 := Lib.hid hz1
  have Hz2 := Lib.hid hz2
  clear hi hz0 hz1 hz2
  have hp0 := splitS_pos s 32
  have hl0 := splitS_len s 32
  go_enter Tryd.func28, Tryd.ntmps28
  go_wp2_with (go_at_call 36; refine Calls.mono (split_any s 32 _ rfl (by omega) _) ?_; rintro _ w1 ⟨g, cap, rfl, hg, hown, hb0⟩; have hC := Lib.hid (strs_cells hown); have HB1 := Lib.hid (bw_trans (Below.refl w.heap.size w) hb0); have hgl : g < w1.heap.size := (own_slice hown hp0).elim fun g2 ⟨_, e, _, h⟩ => (by simp only [Value.slice.injEq, Option.some.injEq, Addr.mk.injEq] at e; rw [e.1.1]; exact h); clear hown hb0)
  go_loopw [5, 6] (fun t i wr => ∃ (j : Nat) (ys : List Sup), Below w1.heap.size w1 wr ∧ j ≤ (splitS s 32).length ∧ i = .int .i64 (j : Int) ∧ wr.ownsRow w1.heap.size 61 3 t j (ys.flatMap Sup.cs) ∧ Hid (Got supS s j ys)) (fun _ i _ => (splitS s 32).length - (intOf i).toNat)
  case atStart => exact ⟨0, [], (by repeat (with_reducible first | exact hbD | exact Below.refl _ _ | refine bw_later ?_ _ | refine bw_alloc ?_ _ | refine bw_drew ?_ | refine bw_set ?_ (Nat.le_refl _) _ | refine bw_set ?_ ?_ _ | exact Nat.le_refl _ | exact later_size _ _ | refine Nat.le_trans ?_ (later_size _ _) | refine Nat.le_trans ?_ (size_alloc_le _ _) | refine Nat.le_trans ?_ (Nat.le_add_right _ _))), by omega, rfl, World.ownsRow_made w1 #[] 0 (Nat.le_refl _) (by decide) rfl, Lib.hid (Got.start supS s)⟩
  case round =>
    obtain ⟨j, ys, hbw, hj, rfl, hown, hG⟩ := hrel
    obtain ⟨y, rfl⟩ := exists_later hbw
    clear hbw
    by_cases hlt : j < (splitS s 32).length
    · obtain ⟨p, hp⟩ : ∃ p, (splitS s 32)[j]? = some p := ⟨_, List.getElem?_eq_getElem hlt⟩
      have HP := Lib.hid hp
      clear hp
      have c0 := hC.out j p HP.out
      have hpz : p.size ≤ 1048576 := by have := splitS_each HP.out; omega
      have hsp := Lib.hid (fun w => split_any p 58 _ rfl hpz w)
      by_cases h2 : (splitS p 58).length = 2
      rotate_left
      · have hfin := Lib.hid (plF_bad readsS HP.out (supS_len h2))
        have hpp := splitS_pos p 58
        generalize splitS p 58 = q at *
        have e1 : ((q.length : Int) == 2) = false := by rw [beq_eq_false_iff_ne]; omega
        have e2 : ((q.length : Int) != 2) = true := by rw [bne_iff_ne]; omega
        clear h2
        go_wp2_with (go_at_call 36; refine Calls.mono (hsp.out _) ?_; rintro _ w2 ⟨gp, cp, rfl, hgp, hownp, hb2⟩; obtain ⟨x, rfl⟩ := exists_later hb2; clear hownp hb2)
        go_ret2
        rw [hfin.out]
        exact SupsB.none_ (bw_trans HB1.out (by repeat (with_reducible first | exact hbD | exact Below.refl _ _ | refine bw_later ?_ _ | refine bw_alloc ?_ _ | refine bw_drew ?_ | refine bw_set ?_ (Nat.le_refl _) _ | refine bw_set ?_ ?_ _ | exact Nat.le_refl _ | exact later_size _ _ | refine Nat.le_trans ?_ (later_size _ _) | refine Nat.le_trans ?_ (size_alloc_le _ _) | refine Nat.le_trans ?_ (Nat.le_add_right _ _))))
      obtain ⟨a, b, hab⟩ := two_of h2
      by_cases h3 : a.size < 2
      · have hfin := Lib.hid (plF_bad readsS HP.out (supS_short hab h3))
        rw [hab] at hsp
        have h3' : decide ((a.size : Int) < 2) = true := by simp; omega
        clear h2 h3 hab
        go_wp2_with (go_at_call 36; refine Calls.mono (hsp.out _) ?_; rintro _ w2 ⟨gp, cp, rfl, hgp, hownp, hb2⟩; have hD := strs_cells hownp; have d0 := hD 0 a rfl; obtain ⟨x, rfl⟩ := exists_later hb2; clear hD hownp hb2)
        go_ret2
        rw [hfin.out]
        exact SupsB.none_ (bw_trans HB1.out (by repeat (with_reducible first | exact hbD | exact Below.refl _ _ | refine bw_later ?_ _ | refine bw_alloc ?_ _ | refine bw_drew ?_ | refine bw_set ?_ (Nat.le_refl _) _ | refine bw_set ?_ ?_ _ | exact Nat.le_refl _ | exact later_size _ _ | refine Nat.le_trans ?_ (later_size _ _) | refine Nat.le_trans ?_ (size_alloc_le _ _) | refine Nat.le_trans ?_ (Nat.le_add_right _ _))))
      have hgot := Lib.hid (hG.out.step HP.out (supS_yes hab h3))
      have h3' : decide ((a.size : Int) < 2) = false := by simp; omega
      have h30 : 0 < a.size := by omega
      have h31 : 1 ≤ a.size := by omega
      have e83 := byte83 h30
      have haz : a.size ≤ p.size := splitS_each (s := p) (c := 58) (k := 0) (by rw [hab]; rfl)
      have hbz : b.size ≤ p.size := splitS_each (s := p) (c := 58) (k := 1) (by rw [hab]; rfl)
      have hxz : (a.extract 1 a.size).size ≤ 1048576 := by rw [ByteArray.size_extract]; omega
      have hrd : Hid (∀ t : ByteArray, (t = a.extract 1 a.size ∨ t = b) → ∀ w, Gv Tryd.prog 44 #[.string t] w (.tuple #[.int .i64 (readF t).1, .bool (readF t).2])) := Lib.hid fun t h w => by
        rcases h with rfl | rfl
        · exact read_any _ hxz w
        · exact read_any _ (by omega) w
      generalize decide (a.data.toList[0]? = some 83) = st at e83 hgot
      rw [hab] at hsp
      clear h2 h3 hab
      go_wp2_with (first | (go_at_call 36; refine Calls.mono (hsp.out _) ?_; rintro _ w2 ⟨gp, cp, rfl, hgp, hownp, hb2⟩; have hD := strs_cells hownp; have d0 := hD 0 a rfl; have d1 := hD 1 b rfl; have hgpl : gp < w2.heap.size := World.block_lt_of_cell? w2 _ d0; have hown2 := own_kept hown hb2; have HD := Lib.hid (bw_trans (later_below _ _) hb2); clear hD hownp hb2 hown) | (go_at_call 44; refine (hrd.out _ (by first | exact .inl rfl | exact .inr rfl) _).on ?_; intro xq; have lz := lt_later _ xq w2.heap.size (by first | (simp; done) | (simp; assumption) | (simp; omega))) | (at_builtin; refine push_law rfl _ _ _ rfl i0 _ 3 24 Tryd.underlying38 Hi.out Hz0.out Hz1.out Hz2.out rfl (by decide) _ _ _ rfl (own_kept hown2 (by repeat (with_reducible first | exact hbD | exact Below.refl _ _ | refine bw_later ?_ _ | refine bw_alloc ?_ _ | refine bw_drew ?_ | refine bw_set ?_ (Nat.le_refl _) _ | refine bw_set ?_ ?_ _ | exact Nat.le_refl _ | exact later_size _ _ | refine Nat.le_trans ?_ (later_size _ _) | refine Nat.le_trans ?_ (size_alloc_le _ _) | refine Nat.le_trans ?_ (Nat.le_add_right _ _)))) (w0 := w1) (bw_trans HD.out (by repeat (with_reducible first | exact hbD | exact Below.refl _ _ | refine bw_later ?_ _ | refine bw_alloc ?_ _ | refine bw_drew ?_ | refine bw_set ?_ (Nat.le_refl _) _ | refine bw_set ?_ ?_ _ | exact Nat.le_refl _ | exact later_size _ _ | refine Nat.le_trans ?_ (later_size _ _) | refine Nat.le_trans ?_ (size_alloc_le _ _) | refine Nat.le_trans ?_ (Nat.le_add_right _ _)))) _ (by simp) rfl rfl (by simp [Value.oneCell']) (by omega) (by omega) ?_; intro v1 y1 hown1))
      go_roundw
      case rel => exact ⟨j + 1, _, (by repeat (with_reducible first | exact hbD | exact Below.refl _ _ | refine bw_later ?_ _ | refine bw_alloc ?_ _ | refine bw_drew ?_ | refine bw_set ?_ (Nat.le_refl _) _ | refine bw_set ?_ ?_ _ | exact Nat.le_refl _ | exact later_size _ _ | refine Nat.le_trans ?_ (later_size _ _) | refine Nat.le_trans ?_ (size_alloc_le _ _) | refine Nat.le_trans ?_ (Nat.le_add_right _ _))), by omega, by go_num, by rw [List.flatMap_append]; simpa [Sup.cs] using hown1, hgot⟩
      case measure => simp [intOf]; omega
    · obtain rfl : j = (splitS s 32).length := by omega
      have hylen := hG.out.len (Nat.le_refl _)
      have hall := Lib.hid (hG.out.all rfl)
      obtain ⟨go, co, rfl, hgo1, hgo2, hgo3⟩ := own_form hown hp0
      have hs := sup_of_own hown hylen hp0
      generalize hn : (splitS s 32).length = n at *
      have hn' : n ≤ 1048576 := by omega
      cases h0 : okLine ys
      · have hfin := Lib.hid (plF_other readsS hall.out (by rw [h0]; simp))
        go_wp2_with (go_at_call 46; refine (l2Line_any go 0 n co ys _ (by first | exact hs | exact hs.later _ | exact hs.alloc _ | exact (hs.alloc _).later _ | exact (hs.later _).alloc _ | exact ((hs.later _).alloc _).later _ | exact ((hs.alloc _).later _).alloc _ | exact (hs.alloc _).alloc _ | exact ((hs.alloc _).alloc _).later _ | exact (((hs.alloc _).later _).alloc _).later _) hn').on ?_; intro xq)
        go_ret2
        rw [hfin.out]
        exact SupsB.none_ (bw_trans HB1.out (by repeat (with_reducible first | exact hbD | exact Below.refl _ _ | refine bw_later ?_ _ | refine bw_alloc ?_ _ | refine bw_drew ?_ | refine bw_set ?_ (Nat.le_refl _) _ | refine bw_set ?_ ?_ _ | exact Nat.le_refl _ | exact later_size _ _ | refine Nat.le_trans ?_ (later_size _ _) | refine Nat.le_trans ?_ (size_alloc_le _ _) | refine Nat.le_trans ?_ (Nat.le_add_right _ _))))
      · cases hq : ((textOf ys).toList == s.toList)
        · have hfin := Lib.hid (plF_other readsS hall.out (by rw [str_eq] at hq; simp at hq; exact fun h => hq h.2))
          go_wp2_with (first | (go_at_call 46; refine (l2Line_any go 0 n co ys _ (by first | exact hs | exact hs.later _ | exact hs.alloc _ | exact (hs.alloc _).later _ | exact (hs.later _).alloc _ | exact ((hs.later _).alloc _).later _ | exact ((hs.alloc _).later _).alloc _ | exact (hs.alloc _).alloc _ | exact ((hs.alloc _).alloc _).later _ | exact (((hs.alloc _).later _).alloc _).later _) hn').on ?_; intro xq) | (go_at_call 47; refine (l2Text_any go 0 n co ys _ (by first | exact hs | exact hs.later _ | exact hs.alloc _ | exact (hs.alloc _).later _ | exact (hs.later _).alloc _ | exact ((hs.later _).alloc _).later _ | exact ((hs.alloc _).later _).alloc _ | exact (hs.alloc _).alloc _ | exact ((hs.alloc _).alloc _).later _ | exact (((hs.alloc _).later _).alloc _).later _) (line_ok h0)).on ?_; intro xq))
          go_ret2
          rw [hfin.out]
          exact SupsB.none_ (bw_trans HB1.out (by repeat (with_reducible first | exact hbD | exact Below.refl _ _ | refine bw_later ?_ _ | refine bw_alloc ?_ _ | refine bw_drew ?_ | refine bw_set ?_ (Nat.le_refl _) _ | refine bw_set ?_ ?_ _ | exact Nat.le_refl _ | exact later_size _ _ | refine Nat.le_trans ?_ (later_size _ _) | refine Nat.le_trans ?_ (size_alloc_le _ _) | refine Nat.le_trans ?_ (Nat.le_add_right _ _))))
        · have hfin := Lib.hid (plF_some (s := s) h0 (by rw [str_eq] at hq; simpa using hq))
          go_wp2_with (first | (go_at_call 46; refine (l2Line_any go 0 n co ys _ (by first | exact hs | exact hs.later _ | exact hs.alloc _ | exact (hs.alloc _).later _ | exact (hs.later _).alloc _ | exact ((hs.later _).alloc _).later _ | exact ((hs.alloc _).later _).alloc _ | exact (hs.alloc _).alloc _ | exact ((hs.alloc _).alloc _).later _ | exact (((hs.alloc _).later _).alloc _).later _) hn').on ?_; intro xq) | (go_at_call 47; refine (l2Text_any go 0 n co ys _ (by first | exact hs | exact hs.later _ | exact hs.alloc _ | exact (hs.alloc _).later _ | exact (hs.later _).alloc _ | exact ((hs.later _).alloc _).later _ | exact ((hs.alloc _).later _).alloc _ | exact (hs.alloc _).alloc _ | exact ((hs.alloc _).alloc _).later _ | exact (((hs.alloc _).later _).alloc _).later _) (line_ok h0)).on ?_; intro xq))
          go_ret2
          rw [hfin.out]
          exact SupsB.some_ (own_lower (own_later (own_later hown _) _) HB1.out.size) hylen (by omega) (bw_trans HB1.out (by repeat (with_reducible first | exact hbD | exact Below.refl _ _ | refine bw_later ?_ _ | refine bw_alloc ?_ _ | refine bw_drew ?_ | refine bw_set ?_ (Nat.le_refl _) _ | refine bw_set ?_ ?_ _ | exact Nat.le_refl _ | exact later_size _ _ | refine Nat.le_trans ?_ (later_size _ _) | refine Nat.le_trans ?_ (size_alloc_le _ _) | refine Nat.le_trans ?_ (Nat.le_add_right _ _))))
end Go.Proofs.YteakffedlojcmaaDoor
