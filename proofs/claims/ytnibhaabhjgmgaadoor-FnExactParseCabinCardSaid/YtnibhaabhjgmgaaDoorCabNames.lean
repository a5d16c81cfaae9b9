/- The names of the states of cabins, out of the row's condition; the law on a cabin's text. -/
import Derived.Test.YtnibhaabhjgmgaaDoorCabText
import Derived.Test.YtnibhaabhjgmgaaDoorDoor
namespace Go.Proofs.YtnibhaabhjgmgaaDoor
open Go.RowKit
theorem cells_of_strs {H : Type} {enc : TypeId × Value → H} {P : Program} {w : World} {base : Nat} {sp : Nat → Bool} {held : Bool} {fuel : Nat} {t e : TypeId} {n : Nat} {cs : List Value} {ss : List (List UInt8)} {p : List MemPlace}
    (ht : P.underlying t = some (.array n e)) (he : P.underlying e = some .string) (hce : P.cellsOf e = 1) (hct : P.cellsOf t = n)
    (h : DataW.trod enc P w base sp held fuel t cs = some (.agg (ss.map fun s => .lit (.string s)), p)) : cs = ss.map fun s => Value.string ⟨s.toArray⟩ := by
  cases fuel with
  | zero => simp [DataW.trod] at h
  | succ fuel =>
    simp only [DataW.trod, ht, hce, hct, Nat.mul_one] at h
    split at h
    · rename_i hl
      obtain ⟨xs, hm, hx⟩ := Option.map_eq_some_iff.1 h
      have hxs : xs.map (·.1) = ss.map fun s => (DataW.lit (.string s) : DataW H) := by
        have := congrArg Prod.fst hx
        simpa using this
      have hxl : xs.length = n := by simpa using Lib.mapM_length hm
      have hzl : ss.length = n := by
        have := congrArg List.length hxs
        simp at this
        omega
      apply List.ext_getElem?
      intro i
      by_cases hi : i < n
      · obtain ⟨b, hb, hf⟩ := Lib.mapM_at hm i i (by simp [hi])
        obtain ⟨s, hc, rfl, _⟩ := DataW.trod_string he hf
        have h1 : cs[i]? = some (.string s) := by
          have := congrArg (·[0]?) hc
          simpa [List.getElem?_take, List.getElem?_drop] using this
        have h2 : (xs.map (·.1))[i]? = some (DataW.lit (.string s.data.toList) : DataW H) := by simp [hb]
        rw [hxs] at h2
        simp only [List.getElem?_map, Option.map_eq_some_iff, DataW.lit.injEq, Lit.string.injEq] at h2
        obtain ⟨z', hz', rfl⟩ := h2
        rw [h1, List.getElem?_map, hz']
        simp
      · rw [List.getElem?_eq_none (by omega), List.getElem?_eq_none (by simp; omega)]
    · cases h
theorem nm_of_laid {l : List (String × DataW Unit)} {W : World} (h : laidMetH Tryd.prog l W) (hf : (l.filter fun x => x.1 == "loop.example/g00935/impl.stateNames") = [("loop.example/g00935/impl.stateNames", Rows.laid_loop_example_g00935_impl_stateNames)]) : Nm W := by
  have h1 := h.filter fun x => x.1 == "loop.example/g00935/impl.stateNames"
  rw [hf, MakeChecks.laidMetH_plain _ _ _ (by kernel_rfl)] at h1
  obtain ⟨ps, ⟨g', t', cs, fuel, p, q, hg', ht', hvar, hd, _, _⟩, _⟩ := h1
  have hg : Tryd.prog.globalNamed "loop.example/g00935/impl.stateNames" = some 0 := by kernel_rfl
  have hty : (Tryd.prog.globals[0]?).map (·.type) = some 43 := by kernel_rfl
  obtain rfl := Option.some.inj (hg.symm.trans hg')
  obtain rfl := Option.some.inj (hty.symm.trans ht')
  have e := cells_of_strs (ss := [[114, 101, 97, 100, 121], [111, 110, 32, 108, 105, 110, 101], [112, 97, 114, 107, 101, 100], [98, 114, 111, 107, 101, 110]]) Tryd.underlying43 Tryd.underlying9 (by kernel_rfl) (by kernel_rfl) hd
  intro d hd4
  have h2 := World.var?_cell hg hvar d
  rw [h2]
  have e2 : cs[d]? = cs.toList[d]? := by simp
  rw [e2, e]
  match d, hd4 with
  | 0, _ | 1, _ | 2, _ | 3, _ => rfl
def ctF (r : R5) : ByteArray := if isCabin r then cabB r else ⟨#[]⟩
theorem s_CabinText_any (r : R5) (w : World)  : Gv Tryd.prog 5 #[r.v] w (.tuple #[.string (ctF r), .bool (isCabin r)]) := by
  unfold Gv R5.v
  cases h : isCabin r
  · have hfin := Lib.hid (show ctF r = ⟨#[]⟩ by simp [ctF, h])
    go_enter Tryd.func5, Tryd.ntmps5
    go_wp2_with (go_at_call 11; (first | refine (l5One_any r _).onL ?_ | refine (l5One_any r _).on ?_); intro xq)
    all_goals (go_ret2; exact ⟨by rw [hfin.out]; try rfl, (by repeat (with_reducible first | exact hbD | exact Below.refl _ _ | refine bw_later ?_ _ | refine bw_alloc ?_ _ | refine bw_drew ?_ | refine bw_set ?_ (Nat.le_refl _) _ | refine bw_set ?_ ?_ _ | exact Nat.le_refl _ | exact later_size _ _ | refine Nat.le_trans ?_ (later_size _ _) | refine Nat.le_trans ?_ (size_alloc_le _ _) | refine Nat.le_trans ?_ (Nat.le_add_right _ _)))⟩)
  · have hfin := Lib.hid (show ctF r = cabB r by simp [ctF, h])
    go_enter Tryd.func5, Tryd.ntmps5
    go_wp2_with (first | (go_at_call 11; (first | refine (l5One_any r _).onL ?_ | refine (l5One_any r _).on ?_); intro xq) | (go_at_call 12; (first | refine (s_cabinText_any r h _).onL ?_ | refine (s_cabinText_any r h _).on ?_); intro xq))
    all_goals (go_ret2; exact ⟨by rw [hfin.out]; try rfl, (by repeat (with_reducible first | exact hbD | exact Below.refl _ _ | refine bw_later ?_ _ | refine bw_alloc ?_ _ | refine bw_drew ?_ | refine bw_set ?_ (Nat.le_refl _) _ | refine bw_set ?_ ?_ _ | exact Nat.le_refl _ | exact later_size _ _ | refine Nat.le_trans ?_ (later_size _ _) | refine Nat.le_trans ?_ (size_alloc_le _ _) | refine Nat.le_trans ?_ (Nat.le_add_right _ _)))⟩)
theorem i_CabinText_any (r : R5) (w : World) (ht : Tab w) (hN : Nm w) : Gv Tryd.prog 7 #[r.v] w (.tuple #[.string (ctF r), .bool (isCabin r)]) := by
  unfold Gv R5.v
  cases h : isCabin r
  · have hfin := Lib.hid (show ctF r = ⟨#[]⟩ by simp [ctF, h])
    go_enter Tryd.func7, Tryd.ntmps7
    go_wp2_with (go_at_call 13; (first | refine (impl_IsCabin_any r _).onL ?_ | refine (impl_IsCabin_any r _).on ?_); intro xq)
    all_goals (go_ret2; exact ⟨by rw [hfin.out]; try rfl, (by repeat (with_reducible first | exact hbD | exact Below.refl _ _ | refine bw_later ?_ _ | refine bw_alloc ?_ _ | refine bw_drew ?_ | refine bw_set ?_ (Nat.le_refl _) _ | refine bw_set ?_ ?_ _ | exact Nat.le_refl _ | exact later_size _ _ | refine Nat.le_trans ?_ (later_size _ _) | refine Nat.le_trans ?_ (size_alloc_le _ _) | refine Nat.le_trans ?_ (Nat.le_add_right _ _)))⟩)
  · have hfin := Lib.hid (show ctF r = cabB r by simp [ctF, h])
    go_enter Tryd.func7, Tryd.ntmps7
    go_wp2_with (first | (go_at_call 13; (first | refine (impl_IsCabin_any r _).onL ?_ | refine (impl_IsCabin_any r _).on ?_); intro xq) | (go_at_call 14; (first | refine (i_cabinText_any r h _ (ht.keep (by repeat (with_reducible first | exact hbD | exact Below.refl _ _ | refine bw_later ?_ _ | refine bw_alloc ?_ _ | refine bw_drew ?_ | refine bw_set ?_ (Nat.le_refl _) _ | refine bw_set ?_ ?_ _ | exact Nat.le_refl _ | exact later_size _ _ | refine Nat.le_trans ?_ (later_size _ _) | refine Nat.le_trans ?_ (size_alloc_le _ _) | refine Nat.le_trans ?_ (Nat.le_add_right _ _)))) (hN.keep (by repeat (with_reducible first | exact hbD | exact Below.refl _ _ | refine bw_later ?_ _ | refine bw_alloc ?_ _ | refine bw_drew ?_ | refine bw_set ?_ (Nat.le_refl _) _ | refine bw_set ?_ ?_ _ | exact Nat.le_refl _ | exact later_size _ _ | refine Nat.le_trans ?_ (later_size _ _) | refine Nat.le_trans ?_ (size_alloc_le _ _) | refine Nat.le_trans ?_ (Nat.le_add_right _ _))))).onL ?_ | refine (i_cabinText_any r h _ (ht.keep (by repeat (with_reducible first | exact hbD | exact Below.refl _ _ | refine bw_later ?_ _ | refine bw_alloc ?_ _ | refine bw_drew ?_ | refine bw_set ?_ (Nat.le_refl _) _ | refine bw_set ?_ ?_ _ | exact Nat.le_refl _ | exact later_size _ _ | refine Nat.le_trans ?_ (later_size _ _) | refine Nat.le_trans ?_ (size_alloc_le _ _) | refine Nat.le_trans ?_ (Nat.le_add_right _ _)))) (hN.keep (by repeat (with_reducible first | exact hbD | exact Below.refl _ _ | refine bw_later ?_ _ | refine bw_alloc ?_ _ | refine bw_drew ?_ | refine bw_set ?_ (Nat.le_refl _) _ | refine bw_set ?_ ?_ _ | exact Nat.le_refl _ | exact later_size _ _ | refine Nat.le_trans ?_ (later_size _ _) | refine Nat.le_trans ?_ (size_alloc_le _ _) | refine Nat.le_trans ?_ (Nat.le_add_right _ _))))).on ?_); intro xq))
    all_goals (go_ret2; exact ⟨by rw [hfin.out]; try rfl, (by repeat (with_reducible first | exact hbD | exact Below.refl _ _ | refine bw_later ?_ _ | refine bw_alloc ?_ _ | refine bw_drew ?_ | refine bw_set ?_ (Nat.le_refl _) _ | refine bw_set ?_ ?_ _ | exact Nat.le_refl _ | exact later_size _ _ | refine Nat.le_trans ?_ (later_size _ _) | refine Nat.le_trans ?_ (size_alloc_le _ _) | refine Nat.le_trans ?_ (Nat.le_add_right _ _)))⟩)
theorem law_CabinText (r0 : R5) (w : World) (ht : Tab w) (hN : Nm w) : Gv Tryd.prog 3 #[r0.v] w (.bool true) := by
  unfold Gv
  unfold R5.v
  · go_enter Tryd.func3, Tryd.ntmps3
    go_wp2_with fail
    refine Calls.mono (toCabin_any r0 _) ?_
    rintro _ w1 ⟨rfl, b1⟩
    have hw := b1
    unfold R5.v
    go_wp2_with fail
    refine Calls.mono (s_CabinText_any r0 _) ?_
    rintro _ w2 ⟨rfl, b2⟩
    replace hw := bw_trans hw b2
    have e0 : w2.cell? ⟨w.heap.size, 0, none⟩ = some (.int .i64 r0.a) := (hw.cell (p := ⟨_, _, none⟩) (by first | (simp; done) | (simp; omega))).trans (by simp [go_sem])
    have e1 : w2.cell? ⟨w.heap.size, 1, none⟩ = some (.int .i64 r0.b) := (hw.cell (p := ⟨_, _, none⟩) (by first | (simp; done) | (simp; omega))).trans (by simp [go_sem])
    have e2 : w2.cell? ⟨w.heap.size, 2, none⟩ = some (.int .i64 r0.c) := (hw.cell (p := ⟨_, _, none⟩) (by first | (simp; done) | (simp; omega))).trans (by simp [go_sem])
    have e3 : w2.cell? ⟨w.heap.size, 3, none⟩ = some (.int .i64 r0.d) := (hw.cell (p := ⟨_, _, none⟩) (by first | (simp; done) | (simp; omega))).trans (by simp [go_sem])
    have e4 : w2.cell? ⟨w.heap.size, 4, none⟩ = some (.int .i64 r0.e) := (hw.cell (p := ⟨_, _, none⟩) (by first | (simp; done) | (simp; omega))).trans (by simp [go_sem])
    go_wp2_with fail
    refine Calls.mono (toCabin_any r0 _) ?_
    rintro _ w3 ⟨rfl, b3⟩
    replace hw := bw_trans hw b3
    unfold R5.v
    clear e0 e1 e2 e3 e4
    go_wp2_with fail
    refine Calls.mono (i_CabinText_any r0 _ ((ht.alloc _).keep hw) ((hN.alloc _).keep hw)) ?_
    rintro _ w4 ⟨rfl, b4⟩
    replace hw := bw_trans hw b4
    go_wp2_with fail
    go_ret
    exact ⟨rfl, bw_trans (bw_alloc (Below.refl _ _) _) hw⟩
end Go.Proofs.YtnibhaabhjgmgaaDoor
