/- A cabin gets another state. -/
import Derived.Test.YtnemamokjikdeaaCabins
import Derived.Test.YtnemamokjikdeaaClone
namespace Go.Proofs.Ytnemamokjikdeaa
open Go Go.RowKit
theorem impl_AreCabins_ok (g off n c : Nat) (xs : List R5) (w : World) (hs : SR5 w g off n xs) (hn : n ≤ 1048576) : Gv Try.prog 20 #[.slice (some ⟨g, off, none⟩) n c] w (.bool (okList isCabin 12 xs)) := by
  have h := impl_AreCabins_any g off n c xs w hs hn
  unfold okList
  rw [hs.2.1]
  exact h

theorem l5Good_ok (g off n c : Nat) (xs : List R5) (w : World) (hs : SR5 w g off n xs) (hn : n ≤ 1048576) : Gv Try.prog 42 #[.slice (some ⟨g, off, none⟩) n c] w (.bool (okList isCabin 12 xs)) := by
  have h := l5Good_any g off n c xs w hs hn
  unfold okList
  rw [hs.2.1]
  exact h
theorem OR5.sr {w : World} {lo hi g n : Nat} {xs : List R5} (h : OR5 w lo hi (some ⟨g, 0, none⟩) n xs) (hn : 0 < n) : SR5 w g 0 n xs := by
  obtain ⟨g', e, _, _, h1, _, h3⟩ := h.cells hn
  simp only [Option.some.injEq, Addr.mk.injEq, and_true] at e
  subst e
  exact ⟨h1, h.1, fun i r hi => by simpa using h3 i r hi⟩
def mayB (f t : Int) : Bool := if t = 0 then f == 1 || f == 2 else if t = 1 then f == 0 else if t = 2 then f == 0 || f == 3 else if t = 3 then f != 3 else false
theorem canBecome_any (f t : Int) (w : World) : Gv Try.prog 48 #[.int .i64 f, .int .i64 t] w (.bool (mayB f t)) := by
  unfold Gv
  by_cases t0 : t = 0
  · subst t0
    go_enter Try.func48, Try.ntmps48
    go_wp2
    all_goals (go_ret; exact ⟨ret_bool (by simp [mayB, *]), (by repeat (with_reducible first | exact Below.refl _ _ | refine bw_later ?_ _ | refine bw_alloc ?_ _ | refine bw_drew ?_ | refine bw_set ?_ (Nat.le_refl _) _ | refine bw_set ?_ ?_ _ | exact Nat.le_refl _ | exact later_size _ _ | refine Nat.le_trans ?_ (later_size _ _) | refine Nat.le_trans ?_ (size_alloc_le _ _) | refine Nat.le_trans ?_ (Nat.le_add_right _ _)))⟩)
  by_cases t1 : t = 1
  · subst t1
    go_enter Try.func48, Try.ntmps48
    go_wp2
    all_goals (go_ret; exact ⟨ret_bool (by simp [mayB, *]), (by repeat (with_reducible first | exact Below.refl _ _ | refine bw_later ?_ _ | refine bw_alloc ?_ _ | refine bw_drew ?_ | refine bw_set ?_ (Nat.le_refl _) _ | refine bw_set ?_ ?_ _ | exact Nat.le_refl _ | exact later_size _ _ | refine Nat.le_trans ?_ (later_size _ _) | refine Nat.le_trans ?_ (size_alloc_le _ _) | refine Nat.le_trans ?_ (Nat.le_add_right _ _)))⟩)
  by_cases t2 : t = 2
  · subst t2
    go_enter Try.func48, Try.ntmps48
    go_wp2
    all_goals (go_ret; exact ⟨ret_bool (by simp [mayB, *]), (by repeat (with_reducible first | exact Below.refl _ _ | refine bw_later ?_ _ | refine bw_alloc ?_ _ | refine bw_drew ?_ | refine bw_set ?_ (Nat.le_refl _) _ | refine bw_set ?_ ?_ _ | exact Nat.le_refl _ | exact later_size _ _ | refine Nat.le_trans ?_ (later_size _ _) | refine Nat.le_trans ?_ (size_alloc_le _ _) | refine Nat.le_trans ?_ (Nat.le_add_right _ _)))⟩)
  by_cases t3 : t = 3
  · subst t3
    go_enter Try.func48, Try.ntmps48
    go_wp2
    all_goals (go_ret; exact ⟨ret_bool (by simp [mayB, *]), (by repeat (with_reducible first | exact Below.refl _ _ | refine bw_later ?_ _ | refine bw_alloc ?_ _ | refine bw_drew ?_ | refine bw_set ?_ (Nat.le_refl _) _ | refine bw_set ?_ ?_ _ | exact Nat.le_refl _ | exact later_size _ _ | refine Nat.le_trans ?_ (later_size _ _) | refine Nat.le_trans ?_ (size_alloc_le _ _) | refine Nat.le_trans ?_ (Nat.le_add_right _ _)))⟩)
  have e0 : (t == 0) = false := by simpa using t0
  have e1 : (t == 1) = false := by simpa using t1
  have e2 : (t == 2) = false := by simpa using t2
  have e3 : (t == 3) = false := by simpa using t3
  have hfin := Lib.hid (show mayB f t = false by simp [mayB, t0, t1, t2, t3])
  clear t0 t1 t2 t3
  go_enter Try.func48, Try.ntmps48
  go_wp2
  all_goals (go_ret; exact ⟨ret_bool (by rw [hfin.out]), (by repeat (with_reducible first | exact Below.refl _ _ | refine bw_later ?_ _ | refine bw_alloc ?_ _ | refine bw_drew ?_ | refine bw_set ?_ (Nat.le_refl _) _ | refine bw_set ?_ ?_ _ | exact Nat.le_refl _ | exact later_size _ _ | refine Nat.le_trans ?_ (later_size _ _) | refine Nat.le_trans ?_ (size_alloc_le _ _) | refine Nat.le_trans ?_ (Nat.le_add_right _ _)))⟩)
theorem l5May_any (f t : Int) (h0 : 0 ≤ f) (h1 : f ≤ 3) (ht : inB t 0 3 = true) (w : World) : Gv Try.prog 45 #[.int .i64 f, .int .i64 t] w (.bool (mayB f t)) := by
  unfold Gv
  obtain ⟨t0, t1⟩ := inB_t ht
  clear ht
  have hf : f = 0 ∨ f = 1 ∨ f = 2 ∨ f = 3 := by omega
  have htt : t = 0 ∨ t = 1 ∨ t = 2 ∨ t = 3 := by omega
  clear h0 h1 t0 t1
  rcases hf with rfl | rfl | rfl | rfl
  all_goals
    go_enter Try.func45, Try.ntmps45
    go_wp2
    all_goals (go_ret; exact ⟨ret_bool (by rcases htt with rfl | rfl | rfl | rfl <;> first | rfl | (simp_all; done) | decide), (by repeat (with_reducible first | exact Below.refl _ _ | refine bw_later ?_ _ | refine bw_alloc ?_ _ | refine bw_drew ?_ | refine bw_set ?_ (Nat.le_refl _) _ | refine bw_set ?_ ?_ _ | exact Nat.le_refl _ | exact later_size _ _ | refine Nat.le_trans ?_ (later_size _ _) | refine Nat.le_trans ?_ (size_alloc_le _ _) | refine Nat.le_trans ?_ (Nat.le_add_right _ _)))⟩)
/-- The place of the first cabin with a number. -/
def ixF (xs : List R5) (z : Int) : Option Nat := xs.findIdx? (fun r => r.a == z)
def ixI (xs : List R5) (z : Int) : Int := match ixF xs z with | some k => (k : Int) | none => -1
theorem ix_some {xs : List R5} {z : Int} {k : Nat} {r : R5} (hr : xs[k]? = some r) (hk : (r.a == z) = true) (h : ∀ j, j < k → ∀ q, xs[j]? = some q → (q.a == z) = false) : ixF xs z = some k := by
  unfold ixF
  obtain ⟨hl, e⟩ := List.getElem?_eq_some_iff.1 hr
  rw [List.findIdx?_eq_some_iff_getElem]
  exact ⟨hl, by rw [e]; exact hk, fun j hj => by rw [h j hj _ (List.getElem?_eq_getElem _)]; simp⟩
theorem ix_none {xs : List R5} {z : Int} (h : ∀ j, j < xs.length → ∀ q, xs[j]? = some q → (q.a == z) = false) : ixF xs z = none := by
  unfold ixF
  rw [List.findIdx?_eq_none_iff]
  intro q hq
  obtain ⟨j, hj, e⟩ := List.getElem_of_mem hq
  exact h j hj q (by rw [← e]; exact List.getElem?_eq_getElem _)
theorem ix_at {xs : List R5} {z : Int} {k : Nat} (h : ixF xs z = some k) : ∃ r, xs[k]? = some r ∧ (r.a == z) = true := by
  unfold ixF at h
  rw [List.findIdx?_eq_some_iff_getElem] at h
  obtain ⟨hl, e, _⟩ := h
  exact ⟨_, List.getElem?_eq_getElem hl, e⟩
/-- The numbers of valid cabins rise. -/
theorem good_up {p : R5 → Bool} {xs : List R5} (h : good p xs = true) : ∀ (d i : Nat) (q r : R5), xs[i]? = some q → xs[i + d + 1]? = some r → q.a < r.a := by
  intro d
  induction d with
  | zero =>
    intro i q r hq hr
    have := good_at h (List.getElem?_eq_some_iff.1 hr).1
    by_cases hlt : q.a < r.a
    · exact hlt
    · rw [goodAt_ge hr hq (good_each h hr) hlt] at this
      cases this
  | succ d ih =>
    intro i q r hq hr
    have hm : i + d + 1 < xs.length := by have := (List.getElem?_eq_some_iff.1 hr).1; omega
    have h1 := ih i q _ hq (List.getElem?_eq_getElem hm)
    have := good_at h (List.getElem?_eq_some_iff.1 hr).1
    have hmm : xs[i + d + 1]? = some (xs[i + d + 1]'hm) := List.getElem?_eq_getElem hm
    by_cases hlt : (xs[i + d + 1]'hm).a < r.a
    · omega
    · rw [show i + (d + 1) + 1 = (i + d + 1) + 1 by omega] at hr this
      rw [goodAt_ge hr hmm (good_each h hr) hlt] at this
      cases this
theorem good_up' {p : R5 → Bool} {xs : List R5} (h : good p xs = true) {i j : Nat} {q r : R5} (hij : i < j) (hq : xs[i]? = some q) (hr : xs[j]? = some r) : q.a < r.a := by
  obtain ⟨d, rfl⟩ : ∃ d, j = i + d + 1 := ⟨j - i - 1, by omega⟩
  exact good_up h d i q r hq hr
def moved (r : R5) (st : Int) : R5 := ⟨r.a, r.b, r.c, st, if (r.d == 1) && (st == 0) then r.e + 1 else r.e⟩
def moveAt (xs : List R5) (st : Int) (k : Nat) : List R5 × Bool := match xs[k]? with
  | some r => if mayB r.d st && okList isCabin 12 (xs.set k (moved r st)) then (xs.set k (moved r st), true) else ([], false)
  | none => ([], false)
def moveF (xs : List R5) (z st : Int) : List R5 × Bool := if okList isCabin 12 xs then (match ixF xs z with | some k => moveAt xs st k | none => ([], false)) else ([], false)
theorem isNum_any (r : R5) (z : Int) (gN : Nat) (w : World) (hN : w.cell? ⟨gN, 0, none⟩ = some (.int .i64 z)) : Gv Try.prog 47 #[r.v, .pointer (some ⟨gN, 0, none⟩)] w (.bool (r.a == z)) := by
  unfold Gv R5.v
  have hg := World.block_lt_of_cell? w _ hN
  simp only at hg
  go_enter Try.func47, Try.ntmps47
  go_wp2
  all_goals (go_ret; exact ⟨rfl, (by repeat (with_reducible first | exact Below.refl _ _ | refine bw_later ?_ _ | refine bw_alloc ?_ _ | refine bw_drew ?_ | refine bw_set ?_ (Nat.le_refl _) _ | refine bw_set ?_ ?_ _ | exact Nat.le_refl _ | exact later_size _ _ | refine Nat.le_trans ?_ (later_size _ _) | refine Nat.le_trans ?_ (size_alloc_le _ _) | refine Nat.le_trans ?_ (Nat.le_add_right _ _)))⟩)
theorem ixFunc_any (g off n c gN : Nat) (xs : List R5) (z : Int) (w : World) (hs : SR5 w g off n xs) (hn : n ≤ 1048576) (hN : w.cell? ⟨gN, 0, none⟩ = some (.int .i64 z)) :
    Gv Try.prog 46 #[.slice (some ⟨g, off, none⟩) n c, .func (.func 47) #[] #[.pointer (some ⟨gN, 0, none⟩)]] w (.int .i64 (ixI xs z)) := by
  unfold Gv
  have hl := Lib.hid hs.2.1
  have hgN := World.block_lt_of_cell? w _ hN
  simp only at hgN
  have hg := hs.1
  go_enter Try.func46, Try.ntmps46
  go_wp2
  go_loopw [8] (fun i wr => ∃ k : Nat, Below w.heap.size w wr ∧ k ≤ n ∧ i = .int .i64 (k : Int) ∧ Hid (∀ j, j < k → ∀ q, xs[j]? = some q → (q.a == z) = false)) (fun i _ => n - (intOf i).toNat)
  case atStart => exact ⟨0, Below.refl _ _, by omega, rfl, Lib.hid fun j hj => absurd hj (by omega)⟩
  case round =>
    obtain ⟨k, hb, hk, rfl, ha⟩ := hrel
    obtain ⟨y, rfl⟩ := exists_later hb
    clear hb
    by_cases hlt : k < n
    · obtain ⟨r, hr0⟩ := hs.at_ hlt
      obtain ⟨c0, c1, c2, c3, c4⟩ := hs.2.2 k r hr0
      have hr := Lib.hid hr0
      clear hr0
      cases hp : (r.a == z)
      · have hq : Hid (∀ j, j < k + 1 → ∀ q, xs[j]? = some q → (q.a == z) = false) := Lib.hid fun j hj q hq => by
          rcases Nat.lt_or_ge j k with h | h
          · exact ha.out j h q hq
          · obtain rfl : j = k := by omega
            rw [hr.out] at hq
            cases hq
            exact hp
        go_wp2_with (go_at_call 47; refine (show Gv _ _ _ _ (.bool false) from hp ▸ isNum_any r z gN _ (by first | exact hN | (rw [cell_later _ _ _ _ hgN]; exact hN))).on ?_; intro xq)
        go_roundw
        case rel => exact ⟨k + 1, (by repeat (with_reducible first | exact Below.refl _ _ | refine bw_later ?_ _ | refine bw_alloc ?_ _ | refine bw_drew ?_ | refine bw_set ?_ (Nat.le_refl _) _ | refine bw_set ?_ ?_ _ | exact Nat.le_refl _ | exact later_size _ _ | refine Nat.le_trans ?_ (later_size _ _) | refine Nat.le_trans ?_ (size_alloc_le _ _) | refine Nat.le_trans ?_ (Nat.le_add_right _ _))), by omega, by go_num, hq⟩
        case measure => simp [intOf]; omega
      · have hfin := Lib.hid (show ixI xs z = (k : Int) by unfold ixI; rw [ix_some hr.out hp ha.out])
        go_wp2_with (go_at_call 47; refine (show Gv _ _ _ _ (.bool true) from hp ▸ isNum_any r z gN _ (by first | exact hN | (rw [cell_later _ _ _ _ hgN]; exact hN))).on ?_; intro xq)
        go_ret
        exact ⟨by rw [hfin.out]; rfl, (by repeat (with_reducible first | exact Below.refl _ _ | refine bw_later ?_ _ | refine bw_alloc ?_ _ | refine bw_drew ?_ | refine bw_set ?_ (Nat.le_refl _) _ | refine bw_set ?_ ?_ _ | exact Nat.le_refl _ | exact later_size _ _ | refine Nat.le_trans ?_ (later_size _ _) | refine Nat.le_trans ?_ (size_alloc_le _ _) | refine Nat.le_trans ?_ (Nat.le_add_right _ _)))⟩
    · obtain rfl : k = n := by omega
      have hfin := Lib.hid (show ixI xs z = -1 by unfold ixI; rw [ix_none (by rw [hl.out]; exact ha.out)])
      go_wp2
      go_ret
      exact ⟨by rw [hfin.out]; rfl, (by repeat (with_reducible first | exact Below.refl _ _ | refine bw_later ?_ _ | refine bw_alloc ?_ _ | refine bw_drew ?_ | refine bw_set ?_ (Nat.le_refl _) _ | refine bw_set ?_ ?_ _ | exact Nat.le_refl _ | exact later_size _ _ | refine Nat.le_trans ?_ (later_size _ _) | refine Nat.le_trans ?_ (size_alloc_le _ _) | refine Nat.le_trans ?_ (Nat.le_add_right _ _)))⟩
end Go.Proofs.Ytnemamokjikdeaa
