/- The elements of a slice of structs that a function does not strike: slices.IndexFunc, slices.DeleteFunc. -/
import Derived.Test.YtnemamokjikdeaaMove
import Derived.Test.YtnemamokjikdeaaClone2
import Derived.Test.YtnemamokjikdeaaSortD
namespace Go.Proofs.Ytnemamokjikdeaa
open Go Go.RowKit
theorem F_cells {F : World → Prop} {g : Nat} (hFs : ∀ w i u, F w → F (w.setCell ⟨g, i, none⟩ u)) : ∀ (vs : List Value) (o : Nat) (w : World), F w → F (w.setCells g o vs)
  | [], _, _, h => h
  | v :: r, o, w, h => F_cells hFs r (o + 1) _ (hFs w o v h)
def ixP (p : R5 → Bool) (xs : List R5) : Int := match xs.findIdx? p with | some k => (k : Int) | none => -1
section
variable {p : R5 → Bool} {xs : List R5} {k : Nat} {r : R5}
theorem ixP_some (hr : xs[k]? = some r) (hk : p r = true) (h : ∀ j, j < k → ∀ q, xs[j]? = some q → p q = false) : xs.findIdx? p = some k := by
  obtain ⟨hl, e⟩ := List.getElem?_eq_some_iff.1 hr
  rw [List.findIdx?_eq_some_iff_getElem]
  exact ⟨hl, by rw [e]; exact hk, fun j hj => by rw [h j hj _ (List.getElem?_eq_getElem _)]; simp⟩
theorem ixP_none (h : ∀ j, j < xs.length → ∀ q, xs[j]? = some q → p q = false) : xs.findIdx? p = none := by
  rw [List.findIdx?_eq_none_iff]
  intro q hq
  obtain ⟨j, hj, e⟩ := List.getElem_of_mem hq
  exact h j hj q (by rw [← e]; exact List.getElem?_eq_getElem _)
theorem ixP_at (h : xs.findIdx? p = some k) : k < xs.length ∧ (∀ j, j < k → ∀ q, xs[j]? = some q → p q = false) ∧ ∀ q, xs[k]? = some q → p q = true := by
  rw [List.findIdx?_eq_some_iff_getElem] at h
  obtain ⟨hl, e, hb⟩ := h
  refine ⟨hl, fun j hj q hq => ?_, fun q hq => ?_⟩
  · have := hb j hj
    obtain ⟨hjl, e2⟩ := List.getElem?_eq_some_iff.1 hq
    rw [e2] at this
    simpa using this
  · obtain ⟨_, e2⟩ := List.getElem?_eq_some_iff.1 hq
    rw [e2] at e
    exact e
theorem keep_all (h : ∀ j, j < k → ∀ q, xs[j]? = some q → p q = false) (hk : k ≤ xs.length) : (xs.take k).filter (fun r => !p r) = xs.take k := by
  rw [List.filter_eq_self]
  intro q hq
  obtain ⟨j, hj, e⟩ := List.getElem_of_mem hq
  have hjk : j < k := by simp at hj; omega
  rw [h j hjk q (by rw [← e, List.getElem_take]; exact List.getElem?_eq_getElem (by simp at hj; omega))]
  rfl
theorem keep_no (hr : xs[k]? = some r) (hp : p r = true) : (xs.take (k + 1)).filter (fun r => !p r) = (xs.take k).filter (fun r => !p r) := by
  simp [List.take_add_one, hr, List.filter_append, hp]
theorem keep_yes (hr : xs[k]? = some r) (hp : p r = false) : (xs.take (k + 1)).filter (fun r => !p r) = (xs.take k).filter (fun r => !p r) ++ [r] := by
  simp [List.take_add_one, hr, List.filter_append, hp]
end
/-- The row while elements are struck: the first i are those kept of the first j; from j on nothing has turned. -/
def DelAt (p : R5 → Bool) (xs : List R5) (i j : Nat) (ys : List R5) : Prop := ys.take i = (xs.take j).filter (fun r => !p r) ∧ ((xs.take j).filter (fun r => !p r)).length = i ∧ ys.drop j = xs.drop j ∧ i < j ∧ j ≤ xs.length ∧ ys.length = xs.length
section
variable {p : R5 → Bool} {xs ys : List R5} {i j : Nat} {r : R5}
theorem DelAt.start {k : Nat} (h : xs.findIdx? p = some k) : DelAt p xs k (k + 1) xs := by
  obtain ⟨hl, hb, hk⟩ := ixP_at h
  have hr : xs[k]? = some xs[k] := List.getElem?_eq_getElem hl
  have e : (xs.take (k + 1)).filter (fun r => !p r) = xs.take k := by rw [keep_no hr (hk _ hr), keep_all hb (by omega)]
  refine ⟨e.symm, by rw [e]; simp; omega, rfl, by omega, by omega, rfl⟩
theorem DelAt.get (h : DelAt p xs i j ys) : ys[j]? = xs[j]? := by
  have := congrArg (fun l => l[0]?) h.2.2.1
  simpa [List.getElem?_drop] using this
theorem DelAt.no (h : DelAt p xs i j ys) (hr : xs[j]? = some r) (hp : p r = true) : DelAt p xs i (j + 1) ys := by
  obtain ⟨h1, h2, h3, h4, h5, h6⟩ := h
  have hl := (List.getElem?_eq_some_iff.1 hr).1
  refine ⟨by rw [keep_no hr hp]; exact h1, by rw [keep_no hr hp]; exact h2, ?_, by omega, by omega, h6⟩
  have := congrArg (List.drop 1) h3
  simpa [List.drop_drop, Nat.add_comm] using this
theorem DelAt.yes (h : DelAt p xs i j ys) (hr : xs[j]? = some r) (hp : p r = false) : DelAt p xs (i + 1) (j + 1) (ys.set i r) := by
  obtain ⟨h1, h2, h3, h4, h5, h6⟩ := h
  have hl := (List.getElem?_eq_some_iff.1 hr).1
  refine ⟨?_, by rw [keep_yes hr hp]; simp; omega, ?_, by omega, by omega, by simpa using h6⟩
  · rw [keep_yes hr hp, ← h1, List.take_add_one, List.take_set_of_le (Nat.le_refl _)]
    simp [show i < ys.length by omega]
  · rw [List.drop_set_of_lt (by omega)]
    have := congrArg (List.drop 1) h3
    simpa [List.drop_drop, Nat.add_comm] using this
theorem DelAt.done (h : DelAt p xs i xs.length ys) : ys.take i = xs.filter (fun r => !p r) ∧ (xs.filter (fun r => !p r)).length = i := by
  obtain ⟨h1, h2, _⟩ := h
  rw [List.take_length] at h1 h2
  exact ⟨h1, h2⟩
end
theorem ix_worn_any (p : R5 → Bool) (F : World → Prop) (gT : Nat) (hFb : ∀ w w', F w → Below w.heap.size w w' → F w') (hcl : ∀ (r : R5) (w : World), F w → Gv Try.prog 58 (#[r.v] ++ #[.pointer (some ⟨gT, 0, none⟩)]) w (.bool (p r))) (g off n c : Nat) (xs : List R5) (w : World) (hs : SR5 w g off n xs) (hn : n ≤ 1048576) (hF0 : F w) :
    Gv Try.prog 46 #[.slice (some ⟨g, off, none⟩) n c, .func (.func 58) #[] #[.pointer (some ⟨gT, 0, none⟩)]] w (.int .i64 (ixP p xs)) := by
  unfold Gv
  have hl := Lib.hid hs.2.1
  have hg := hs.1
  have hC : Hid (∀ (r : R5) (x : Lat w), Gv Try.prog 58 (#[r.v] ++ #[.pointer (some ⟨gT, 0, none⟩)]) (later w x) (.bool (p r))) := Lib.hid fun r x => hcl r _ (hFb _ _ hF0 (later_below w x))
  clear hcl hFb hF0
  go_enter Try.func46, Try.ntmps46
  go_wp2
  go_loopw [8] (fun i wr => ∃ k : Nat, Below w.heap.size w wr ∧ k ≤ n ∧ i = .int .i64 (k : Int) ∧ Hid (∀ j, j < k → ∀ q, xs[j]? = some q → p q = false)) (fun i _ => n - (intOf i).toNat)
  case atStart => exact ⟨0, Below.refl _ _, by omega, rfl, Lib.hid fun j hj => absurd hj (by omega)⟩
  case round =>
    obtain ⟨k, hb, hk, rfl, ha⟩ := hrel
    obtain ⟨y, rfl⟩ := exists_later hb
    clear hb
    by_cases hlt : k < n
    · obtain ⟨r, hr0⟩ := hs.at_ hlt
      obtain ⟨c0, c1, c2, c3, c4⟩ := hs.2.2 k r hr0
      have hr := Lib.hid hr0
      clear hr0
      cases hp : p r
      · have hq : Hid (∀ j, j < k + 1 → ∀ q, xs[j]? = some q → p q = false) := Lib.hid fun j hj q hq => by
          rcases Nat.lt_or_ge j k with h | h
          · exact ha.out j h q hq
          · obtain rfl : j = k := by omega
            rw [hr.out] at hq
            cases hq
            exact hp
        go_wp2_with (go_at_call 58; refine (show Gv _ _ _ _ (.bool false) from hp ▸ hC.out r y).onL ?_; intro xq)
        go_roundw
        case rel => exact ⟨k + 1, (by repeat (with_reducible first | exact hbD | exact Below.refl _ _ | refine bw_later ?_ _ | refine bw_alloc ?_ _ | refine bw_drew ?_ | refine bw_set ?_ (Nat.le_refl _) _ | refine bw_set ?_ ?_ _ | exact Nat.le_refl _ | exact later_size _ _ | refine Nat.le_trans ?_ (later_size _ _) | refine Nat.le_trans ?_ (size_alloc_le _ _) | refine Nat.le_trans ?_ (Nat.le_add_right _ _))), by omega, by go_num, hq⟩
        case measure => simp [intOf]; omega
      · have hfin := Lib.hid (show ixP p xs = (k : Int) by unfold ixP; rw [ixP_some hr.out hp ha.out])
        go_wp2_with (go_at_call 58; refine (show Gv _ _ _ _ (.bool true) from hp ▸ hC.out r y).onL ?_; intro xq)
        go_ret
        exact ⟨by rw [hfin.out]; rfl, (by repeat (with_reducible first | exact hbD | exact Below.refl _ _ | refine bw_later ?_ _ | refine bw_alloc ?_ _ | refine bw_drew ?_ | refine bw_set ?_ (Nat.le_refl _) _ | refine bw_set ?_ ?_ _ | exact Nat.le_refl _ | exact later_size _ _ | refine Nat.le_trans ?_ (later_size _ _) | refine Nat.le_trans ?_ (size_alloc_le _ _) | refine Nat.le_trans ?_ (Nat.le_add_right _ _)))⟩
    · obtain rfl : k = n := by omega
      have hfin := Lib.hid (show ixP p xs = -1 by unfold ixP; rw [ixP_none (by rw [hl.out]; exact ha.out)])
      go_wp2
      go_ret
      exact ⟨by rw [hfin.out]; rfl, (by repeat (with_reducible first | exact hbD | exact Below.refl _ _ | refine bw_later ?_ _ | refine bw_alloc ?_ _ | refine bw_drew ?_ | refine bw_set ?_ (Nat.le_refl _) _ | refine bw_set ?_ ?_ _ | exact Nat.le_refl _ | exact later_size _ _ | refine Nat.le_trans ?_ (later_size _ _) | refine Nat.le_trans ?_ (size_alloc_le _ _) | refine Nat.le_trans ?_ (Nat.le_add_right _ _)))⟩
theorem ix_few_any (p : R5 → Bool) (F : World → Prop) (hFb : ∀ w w', F w → Below w.heap.size w w' → F w') (hcl : ∀ (r : R5) (w : World), F w → Gv Try.prog 53 (#[r.v] ++ #[]) w (.bool (p r))) (g off n c : Nat) (xs : List R5) (w : World) (hs : SR5 w g off n xs) (hn : n ≤ 1048576) (hF0 : F w) :
    Gv Try.prog 46 #[.slice (some ⟨g, off, none⟩) n c, .func (.func 53) #[] #[]] w (.int .i64 (ixP p xs)) := by
  unfold Gv
  have hl := Lib.hid hs.2.1
  have hg := hs.1
  have hC : Hid (∀ (r : R5) (x : Lat w), Gv Try.prog 53 (#[r.v] ++ #[]) (later w x) (.bool (p r))) := Lib.hid fun r x => hcl r _ (hFb _ _ hF0 (later_below w x))
  clear hcl hFb hF0
  go_enter Try.func46, Try.ntmps46
  go_wp2
  go_loopw [8] (fun i wr => ∃ k : Nat, Below w.heap.size w wr ∧ k ≤ n ∧ i = .int .i64 (k : Int) ∧ Hid (∀ j, j < k → ∀ q, xs[j]? = some q → p q = false)) (fun i _ => n - (intOf i).toNat)
  case atStart => exact ⟨0, Below.refl _ _, by omega, rfl, Lib.hid fun j hj => absurd hj (by omega)⟩
  case round =>
    obtain ⟨k, hb, hk, rfl, ha⟩ := hrel
    obtain ⟨y, rfl⟩ := exists_later hb
    clear hb
    by_cases hlt : k < n
    · obtain ⟨r, hr0⟩ := hs.at_ hlt
      obtain ⟨c0, c1, c2, c3, c4⟩ := hs.2.2 k r hr0
      have hr := Lib.hid hr0
      clear hr0
      cases hp : p r
      · have hq : Hid (∀ j, j < k + 1 → ∀ q, xs[j]? = some q → p q = false) := Lib.hid fun j hj q hq => by
          rcases Nat.lt_or_ge j k with h | h
          · exact ha.out j h q hq
          · obtain rfl : j = k := by omega
            rw [hr.out] at hq
            cases hq
            exact hp
        go_wp2_with (go_at_call 53; refine (show Gv _ _ _ _ (.bool false) from hp ▸ hC.out r y).onL ?_; intro xq)
        go_roundw
        case rel => exact ⟨k + 1, (by repeat (with_reducible first | exact hbD | exact Below.refl _ _ | refine bw_later ?_ _ | refine bw_alloc ?_ _ | refine bw_drew ?_ | refine bw_set ?_ (Nat.le_refl _) _ | refine bw_set ?_ ?_ _ | exact Nat.le_refl _ | exact later_size _ _ | refine Nat.le_trans ?_ (later_size _ _) | refine Nat.le_trans ?_ (size_alloc_le _ _) | refine Nat.le_trans ?_ (Nat.le_add_right _ _))), by omega, by go_num, hq⟩
        case measure => simp [intOf]; omega
      · have hfin := Lib.hid (show ixP p xs = (k : Int) by unfold ixP; rw [ixP_some hr.out hp ha.out])
        go_wp2_with (go_at_call 53; refine (show Gv _ _ _ _ (.bool true) from hp ▸ hC.out r y).onL ?_; intro xq)
        go_ret
        exact ⟨by rw [hfin.out]; rfl, (by repeat (with_reducible first | exact hbD | exact Below.refl _ _ | refine bw_later ?_ _ | refine bw_alloc ?_ _ | refine bw_drew ?_ | refine bw_set ?_ (Nat.le_refl _) _ | refine bw_set ?_ ?_ _ | exact Nat.le_refl _ | exact later_size _ _ | refine Nat.le_trans ?_ (later_size _ _) | refine Nat.le_trans ?_ (size_alloc_le _ _) | refine Nat.le_trans ?_ (Nat.le_add_right _ _)))⟩
    · obtain rfl : k = n := by omega
      have hfin := Lib.hid (show ixP p xs = -1 by unfold ixP; rw [ixP_none (by rw [hl.out]; exact ha.out)])
      go_wp2
      go_ret
      exact ⟨by rw [hfin.out]; rfl, (by repeat (with_reducible first | exact hbD | exact Below.refl _ _ | refine bw_later ?_ _ | refine bw_alloc ?_ _ | refine bw_drew ?_ | refine bw_set ?_ (Nat.le_refl _) _ | refine bw_set ?_ ?_ _ | exact Nat.le_refl _ | exact later_size _ _ | refine Nat.le_trans ?_ (later_size _ _) | refine Nat.le_trans ?_ (size_alloc_le _ _) | refine Nat.le_trans ?_ (Nat.le_add_right _ _)))⟩
set_option maxHeartbeats 4000000 in
theorem del_worn_any (p : R5 → Bool) (F : World → Prop) (gT : Nat) (g : Nat) (hFb : ∀ w w', F w → Below w.heap.size w w' → F w') (hFs : ∀ w i u, F w → F (w.setCell ⟨g, i, none⟩ u)) (hcl : ∀ (r : R5) (w : World), F w → Gv Try.prog 58 (#[r.v] ++ #[.pointer (some ⟨gT, 0, none⟩)]) w (.bool (p r)))
    (n c : Nat) (xs : List R5) (w : World) (hO : OR5 w g (g + 1) (some ⟨g, 0, none⟩) n xs) (hgl : g < w.heap.size) (hn : n ≤ 1048576) (hnc : n ≤ c) (hF0 : F w) :
    Calls Try.prog 52 #[.slice (some ⟨g, 0, none⟩) n c, .func (.func 58) #[] #[.pointer (some ⟨gT, 0, none⟩)]] w fun e w' => ∃ m, e = .returned (.slice (some ⟨g, 0, none⟩) m c) ∧ m ≤ n ∧ OR5 w' g (g + 1) (some ⟨g, 0, none⟩) m (xs.filter (fun r => !p r)) ∧ Tch w w' g (g + 1) ∧ F w' := by
  have hl := Lib.hid hO.1
  have hsr : SR5 w g 0 n xs := by
    rcases Nat.eq_zero_or_pos n with h | h
    · subst h
      have : xs = [] := List.eq_nil_of_length_eq_zero hO.1
      subst this
      exact ⟨hgl, rfl, fun i r hi => by simp at hi⟩
    · exact hO.sr h
  cases hk : xs.findIdx? p
  · have hix : ixP p xs = -1 := by unfold ixP; rw [hk]
    have hall : Hid (xs.filter (fun r => !p r) = xs) := Lib.hid (by
      rw [List.findIdx?_eq_none_iff] at hk
      rw [List.filter_eq_self]
      intro q hq
      rw [hk q hq]; rfl)
    go_enter Try.func52, Try.ntmps52
    go_wp2_with (go_at_call 46; refine (show Gv _ _ _ _ (.int .i64 (-1)) from hix ▸ ix_worn_any p F gT hFb hcl g 0 n c xs w hsr hn hF0).on ?_; intro xq)
    go_ret
    exact ⟨n, rfl, Nat.le_refl _, by rw [hall.out]; exact hO.below2 (later_below _ _), Tch.of_below (later_below _ _), hFb _ _ hF0 (later_below _ _)⟩
  rename_i k
  have hkl : k < xs.length := (ixP_at hk).1
  have hix : ixP p xs = (k : Int) := by unfold ixP; rw [hk]
  have hk1 : ((k : Int) == -1) = false := by simp <;> omega
  have hD0 := Lib.hid (DelAt.start hk)
  have hkn : k < n := by have := hl.out; omega
  have h0n : 0 < n := by omega
  have hFB : Hid (∀ w w', F w → Below w.heap.size w w' → F w') := Lib.hid hFb
  have hFS : Hid (∀ w i u, F w → F (w.setCell ⟨g, i, none⟩ u)) := Lib.hid hFs
  have hC : Hid (∀ (r : R5) (w : World), F w → Gv Try.prog 58 (#[r.v] ++ #[.pointer (some ⟨gT, 0, none⟩)]) w (.bool (p r))) := Lib.hid hcl
  clear hk hkl
  go_enter Try.func52, Try.ntmps52
  go_wp2_with (go_at_call 46; refine (show Gv _ _ _ _ (.int .i64 (k : Int)) from hix ▸ ix_worn_any p F gT hFb hcl g 0 n c xs w hsr hn hF0).on ?_; intro xq)
  go_loopw [5, 6] (fun a b wr => ∃ (i j : Nat) (ys : List R5), Tch w wr g (g + 1) ∧ i < j ∧ j ≤ n ∧ a = .int .i64 (i : Int) ∧ b = .int .i64 (j : Int) ∧ OR5 wr g (g + 1) (some ⟨g, 0, none⟩) n ys ∧ F wr ∧ Hid (DelAt p xs i j ys)) (fun _ b _ => n - (intOf b).toNat)
  case atStart => exact ⟨k, k + 1, xs, Tch.of_below (later_below _ _), by omega, by omega, rfl, rfl, hO.below2 (later_below _ _), hFb _ _ hF0 (later_below _ _), hD0⟩
  case round =>
    clear hsr hF0 hO hcl hFb hFs hD0 hix hk1
    obtain ⟨i, j, ys, ht, hij, hjn, rfl, rfl, hO, hF, hD⟩ := hrel
    have hyl := hO.1
    have hgl2 := hO.lt_of h0n
    obtain ⟨g2', eg, -, -, -, fz, hcc⟩ := hO.cells h0n
    simp only [Option.some.injEq, Addr.mk.injEq, and_true] at eg
    subst eg
    by_cases hlt : j < n
    · obtain ⟨r, hr0⟩ := hO.at_ hlt
      obtain ⟨q, hq0⟩ := hO.at_ (k := i) (by omega)
      obtain ⟨d0, d1, d2, d3, d4⟩ := hcc j r hr0
      obtain ⟨e0, e1, e2, e3, e4⟩ := hcc i q hq0
      have hr := Lib.hid (hD.out.get ▸ hr0)
      have hq := Lib.hid hq0
      clear hr0 hq0 hcc
      cases hp : p r
      · go_wp2_with (go_at_call 58; refine (show Gv _ _ _ _ (.bool false) from hp ▸ hC.out r _ (hFB.out _ _ hF (by repeat (with_reducible first | exact Below.refl _ _ | refine bw_later ?_ _ | refine bw_alloc ?_ _ | refine bw_drew ?_)))).on ?_; intro xq)
        go_roundw
        case rel => exact ⟨i + 1, j + 1, _, (by repeat (with_reducible first | exact ht | refine Tch.later ?_ _ | refine Tch.alloc ?_ _ | refine Tch.put ?_ _)), by omega, by omega, by go_num, by go_num, OR5.store (hO.below2 (by repeat (with_reducible first | exact Below.refl _ _ | refine bw_later ?_ _ | refine bw_alloc ?_ _ | refine bw_drew ?_))) hq.out r, hFS.out _ _ _ (hFS.out _ _ _ (hFS.out _ _ _ (hFS.out _ _ _ (hFS.out _ _ _ (hFB.out _ _ hF (by repeat (with_reducible first | exact Below.refl _ _ | refine bw_later ?_ _ | refine bw_alloc ?_ _ | refine bw_drew ?_))))))), Lib.hid (hD.out.yes hr.out hp)⟩
        case measure => simp [intOf]; omega
      · go_wp2_with (go_at_call 58; refine (show Gv _ _ _ _ (.bool true) from hp ▸ hC.out r _ (hFB.out _ _ hF (by repeat (with_reducible first | exact Below.refl _ _ | refine bw_later ?_ _ | refine bw_alloc ?_ _ | refine bw_drew ?_)))).on ?_; intro xq)
        go_roundw
        case rel => exact ⟨i, j + 1, ys, (by repeat (with_reducible first | exact ht | refine Tch.later ?_ _ | refine Tch.alloc ?_ _ | refine Tch.put ?_ _)), by omega, by omega, by go_num, by go_num, hO.below2 (by repeat (with_reducible first | exact Below.refl _ _ | refine bw_later ?_ _ | refine bw_alloc ?_ _ | refine bw_drew ?_)), (hFB.out _ _ hF (by repeat (with_reducible first | exact Below.refl _ _ | refine bw_later ?_ _ | refine bw_alloc ?_ _ | refine bw_drew ?_))), Lib.hid (hD.out.no hr.out hp)⟩
        case measure => simp [intOf]; omega
    · obtain rfl : j = n := by omega
      have hDn := hD.out
      have hz : Hid (ys.take i = xs.filter (fun r => !p r) ∧ (xs.filter (fun r => !p r)).length = i) := Lib.hid (DelAt.done (ys := ys) (by have e := hl.out; rw [e]; exact hDn))
      have hclr : ∀ ty, (Builtin.clear_ #[34] ty #[.slice (some ⟨g, i * 5, none⟩) (j - i) (c - i)]).run Try.prog wr = .ok (.tuple #[]) (wr.setCells g (i * 5) (Builtin.zeroCells #[.int .i64 0, .int .i64 0, .int .i64 0, .int .i64 0, .int .i64 0] (j - i)).toList) := fun ty => run_clear_many wr _ _ ty (.agg #[.int .i64 0, .int .i64 0, .int .i64 0, .int .i64 0, .int .i64 0]) Try.underlying34 Try.zeroValue25 (by intro v hv; simp [Value.cells] at hv; subst hv; rfl) g (i * 5) (j - i) (c - i) (by omega) (fun k hk => by
        have hk' : k < (j - i) * 5 := hk
        obtain ⟨a, b, rfl, hb⟩ : ∃ a b, k = a * 5 + b ∧ b < 5 := ⟨k / 5, k % 5, by omega, by omega⟩
        obtain ⟨q, hq⟩ := hO.at_ (k := i + a) (by omega)
        obtain ⟨d0, d1, d2, d3, d4⟩ := hcc (i + a) q hq
        have e : i * 5 + (a * 5 + b) = (i + a) * 5 + b := by omega
        rw [e]
        match b, hb with
        | 0, _ => rw [Nat.add_zero, d0]; rfl
        | 1, _ => rw [d1]; rfl
        | 2, _ => rw [d2]; rfl
        | 3, _ => rw [d3]; rfl
        | 4, _ => rw [d4]; rfl) (fun _ => fz _)
      clear hcc hDn
      go_wp2
      go_ret
      exact ⟨i, rfl, by omega, by rw [← hz.out.1]; exact OR5.clearFar _ _ _ (hO.shrink (by omega)) (Nat.le_refl _), Tch.cells _ _ _ ht, F_cells hFS.out _ _ _ hF⟩
set_option maxHeartbeats 4000000 in
theorem del_few_any (p : R5 → Bool) (F : World → Prop) (g : Nat) (hFb : ∀ w w', F w → Below w.heap.size w w' → F w') (hFs : ∀ w i u, F w → F (w.setCell ⟨g, i, none⟩ u)) (hcl : ∀ (r : R5) (w : World), F w → Gv Try.prog 53 (#[r.v] ++ #[]) w (.bool (p r)))
    (n c : Nat) (xs : List R5) (w : World) (hO : OR5 w g (g + 1) (some ⟨g, 0, none⟩) n xs) (hgl : g < w.heap.size) (hn : n ≤ 1048576) (hnc : n ≤ c) (hF0 : F w) :
    Calls Try.prog 52 #[.slice (some ⟨g, 0, none⟩) n c, .func (.func 53) #[] #[]] w fun e w' => ∃ m, e = .returned (.slice (some ⟨g, 0, none⟩) m c) ∧ m ≤ n ∧ OR5 w' g (g + 1) (some ⟨g, 0, none⟩) m (xs.filter (fun r => !p r)) ∧ Tch w w' g (g + 1) ∧ F w' := by
  have hl := Lib.hid hO.1
  have hsr : SR5 w g 0 n xs := by
    rcases Nat.eq_zero_or_pos n with h | h
    · subst h
      have : xs = [] := List.eq_nil_of_length_eq_zero hO.1
      subst this
      exact ⟨hgl, rfl, fun i r hi => by simp at hi⟩
    · exact hO.sr h
  cases hk : xs.findIdx? p
  · have hix : ixP p xs = -1 := by unfold ixP; rw [hk]
    have hall : Hid (xs.filter (fun r => !p r) = xs) := Lib.hid (by
      rw [List.findIdx?_eq_none_iff] at hk
      rw [List.filter_eq_self]
      intro q hq
      rw [hk q hq]; rfl)
    go_enter Try.func52, Try.ntmps52
    go_wp2_with (go_at_call 46; refine (show Gv _ _ _ _ (.int .i64 (-1)) from hix ▸ ix_few_any p F hFb hcl g 0 n c xs w hsr hn hF0).on ?_; intro xq)
    go_ret
    exact ⟨n, rfl, Nat.le_refl _, by rw [hall.out]; exact hO.below2 (later_below _ _), Tch.of_below (later_below _ _), hFb _ _ hF0 (later_below _ _)⟩
  rename_i k
  have hkl : k < xs.length := (ixP_at hk).1
  have hix : ixP p xs = (k : Int) := by unfold ixP; rw [hk]
  have hk1 : ((k : Int) == -1) = false := by simp <;> omega
  have hD0 := Lib.hid (DelAt.start hk)
  have hkn : k < n := by have := hl.out; omega
  have h0n : 0 < n := by omega
  have hFB : Hid (∀ w w', F w → Below w.heap.size w w' → F w') := Lib.hid hFb
  have hFS : Hid (∀ w i u, F w → F (w.setCell ⟨g, i, none⟩ u)) := Lib.hid hFs
  have hC : Hid (∀ (r : R5) (w : World), F w → Gv Try.prog 53 (#[r.v] ++ #[]) w (.bool (p r))) := Lib.hid hcl
  clear hk hkl
  go_enter Try.func52, Try.ntmps52
  go_wp2_with (go_at_call 46; refine (show Gv _ _ _ _ (.int .i64 (k : Int)) from hix ▸ ix_few_any p F hFb hcl g 0 n c xs w hsr hn hF0).on ?_; intro xq)
  go_loopw [5, 6] (fun a b wr => ∃ (i j : Nat) (ys : List R5), Tch w wr g (g + 1) ∧ i < j ∧ j ≤ n ∧ a = .int .i64 (i : Int) ∧ b = .int .i64 (j : Int) ∧ OR5 wr g (g + 1) (some ⟨g, 0, none⟩) n ys ∧ F wr ∧ Hid (DelAt p xs i j ys)) (fun _ b _ => n - (intOf b).toNat)
  case atStart => exact ⟨k, k + 1, xs, Tch.of_below (later_below _ _), by omega, by omega, rfl, rfl, hO.below2 (later_below _ _), hFb _ _ hF0 (later_below _ _), hD0⟩
  case round =>
    clear hsr hF0 hO hcl hFb hFs hD0 hix hk1
    obtain ⟨i, j, ys, ht, hij, hjn, rfl, rfl, hO, hF, hD⟩ := hrel
    have hyl := hO.1
    have hgl2 := hO.lt_of h0n
    obtain ⟨g2', eg, -, -, -, fz, hcc⟩ := hO.cells h0n
    simp only [Option.some.injEq, Addr.mk.injEq, and_true] at eg
    subst eg
    by_cases hlt : j < n
    · obtain ⟨r, hr0⟩ := hO.at_ hlt
      obtain ⟨q, hq0⟩ := hO.at_ (k := i) (by omega)
      obtain ⟨d0, d1, d2, d3, d4⟩ := hcc j r hr0
      obtain ⟨e0, e1, e2, e3, e4⟩ := hcc i q hq0
      have hr := Lib.hid (hD.out.get ▸ hr0)
      have hq := Lib.hid hq0
      clear hr0 hq0 hcc
      cases hp : p r
      · go_wp2_with (go_at_call 53; refine (show Gv _ _ _ _ (.bool false) from hp ▸ hC.out r _ (hFB.out _ _ hF (by repeat (with_reducible first | exact Below.refl _ _ | refine bw_later ?_ _ | refine bw_alloc ?_ _ | refine bw_drew ?_)))).on ?_; intro xq)
        go_roundw
        case rel => exact ⟨i + 1, j + 1, _, (by repeat (with_reducible first | exact ht | refine Tch.later ?_ _ | refine Tch.alloc ?_ _ | refine Tch.put ?_ _)), by omega, by omega, by go_num, by go_num, OR5.store (hO.below2 (by repeat (with_reducible first | exact Below.refl _ _ | refine bw_later ?_ _ | refine bw_alloc ?_ _ | refine bw_drew ?_))) hq.out r, hFS.out _ _ _ (hFS.out _ _ _ (hFS.out _ _ _ (hFS.out _ _ _ (hFS.out _ _ _ (hFB.out _ _ hF (by repeat (with_reducible first | exact Below.refl _ _ | refine bw_later ?_ _ | refine bw_alloc ?_ _ | refine bw_drew ?_))))))), Lib.hid (hD.out.yes hr.out hp)⟩
        case measure => simp [intOf]; omega
      · go_wp2_with (go_at_call 53; refine (show Gv _ _ _ _ (.bool true) from hp ▸ hC.out r _ (hFB.out _ _ hF (by repeat (with_reducible first | exact Below.refl _ _ | refine bw_later ?_ _ | refine bw_alloc ?_ _ | refine bw_drew ?_)))).on ?_; intro xq)
        go_roundw
        case rel => exact ⟨i, j + 1, ys, (by repeat (with_reducible first | exact ht | refine Tch.later ?_ _ | refine Tch.alloc ?_ _ | refine Tch.put ?_ _)), by omega, by omega, by go_num, by go_num, hO.below2 (by repeat (with_reducible first | exact Below.refl _ _ | refine bw_later ?_ _ | refine bw_alloc ?_ _ | refine bw_drew ?_)), (hFB.out _ _ hF (by repeat (with_reducible first | exact Below.refl _ _ | refine bw_later ?_ _ | refine bw_alloc ?_ _ | refine bw_drew ?_))), Lib.hid (hD.out.no hr.out hp)⟩
        case measure => simp [intOf]; omega
    · obtain rfl : j = n := by omega
      have hDn := hD.out
      have hz : Hid (ys.take i = xs.filter (fun r => !p r) ∧ (xs.filter (fun r => !p r)).length = i) := Lib.hid (DelAt.done (ys := ys) (by have e := hl.out; rw [e]; exact hDn))
      have hclr : ∀ ty, (Builtin.clear_ #[34] ty #[.slice (some ⟨g, i * 5, none⟩) (j - i) (c - i)]).run Try.prog wr = .ok (.tuple #[]) (wr.setCells g (i * 5) (Builtin.zeroCells #[.int .i64 0, .int .i64 0, .int .i64 0, .int .i64 0, .int .i64 0] (j - i)).toList) := fun ty => run_clear_many wr _ _ ty (.agg #[.int .i64 0, .int .i64 0, .int .i64 0, .int .i64 0, .int .i64 0]) Try.underlying34 Try.zeroValue25 (by intro v hv; simp [Value.cells] at hv; subst hv; rfl) g (i * 5) (j - i) (c - i) (by omega) (fun k hk => by
        have hk' : k < (j - i) * 5 := hk
        obtain ⟨a, b, rfl, hb⟩ : ∃ a b, k = a * 5 + b ∧ b < 5 := ⟨k / 5, k % 5, by omega, by omega⟩
        obtain ⟨q, hq⟩ := hO.at_ (k := i + a) (by omega)
        obtain ⟨d0, d1, d2, d3, d4⟩ := hcc (i + a) q hq
        have e : i * 5 + (a * 5 + b) = (i + a) * 5 + b := by omega
        rw [e]
        match b, hb with
        | 0, _ => rw [Nat.add_zero, d0]; rfl
        | 1, _ => rw [d1]; rfl
        | 2, _ => rw [d2]; rfl
        | 3, _ => rw [d3]; rfl
        | 4, _ => rw [d4]; rfl) (fun _ => fz _)
      clear hcc hDn
      go_wp2
      go_ret
      exact ⟨i, rfl, by omega, by rw [← hz.out.1]; exact OR5.clearFar _ _ _ (hO.shrink (by omega)) (Nat.le_refl _), Tch.cells _ _ _ ht, F_cells hFS.out _ _ _ hF⟩
end Go.Proofs.Ytnemamokjikdeaa
