/- The laws' marks on rows of texts. -/
import Derived.Test.YteakffedlojcmaaNum
import Derived.Test.YteakffedlojcmaaSplitL
import Derived.Test.YteakffedlojcmaaOwn
import Derived.Laws.IdiomStrings
namespace Go.Proofs.Yteakffedlojcmaa
open Go.RowKit
def markB (k : Int) : ByteArray := mkB (109 :: Lib.decDigits k.toNat)
/-- Slices of texts. -/
def ST (w : World) (g off n : Nat) (xs : List ByteArray) : Prop := g < w.heap.size ∧ xs.length = n ∧ ∀ (i : Nat) (r : ByteArray), xs[i]? = some r → w.cell? ⟨g, off + i, none⟩ = some (.string r)
def AT (w : World) (A : Option Addr) (n : Nat) (xs : List ByteArray) : Prop := xs.length = n ∧ (0 < n → ∃ g off, A = some ⟨g, off, none⟩ ∧ ST w g off n xs)
section
variable {w w' : World} {g off n : Nat} {xs : List ByteArray}
theorem ST.keep (h : ST w g off n xs) (hb : Below (g + 1) w w') : ST w' g off n xs := by
  refine ⟨Nat.lt_of_lt_of_le h.1 hb.size, h.2.1, fun i r hi => ?_⟩
  have := h.2.2 i r hi
  simp only [hb.cell (p := ⟨g, _, none⟩) (Nat.lt_succ_self g)]
  exact this
theorem ST.later (h : ST w g off n xs) (x : Lat w) : ST (later w x) g off n xs := h.keep ((later_below w x).mono h.1)
theorem ST.at_ (h : ST w g off n xs) {k : Nat} (hk : k < n) : ∃ r, xs[k]? = some r := ⟨xs[k]'(by have := h.2.1; omega), List.getElem?_eq_getElem _⟩
theorem AT.below2 {A : Option Addr} (h : AT w A n xs) (hb : Below w.heap.size w w') : AT w' A n xs :=
  ⟨h.1, fun hn => by obtain ⟨g, off, e, hs⟩ := h.2 hn; exact ⟨g, off, e, hs.keep (hb.mono hs.1)⟩⟩
theorem AT.of (h : ST w g off n xs) : AT w (some ⟨g, off, none⟩) n xs := ⟨h.2.1, fun _ => ⟨g, off, rfl, h⟩⟩
end
theorem Tch.more {w w' w'' : World} {lo hi : Nat} (h : Tch w w' lo hi) (hb : Below w'.heap.size w' w'') : Tch w w'' lo hi :=
  ⟨hb.os.trans h.os, hb.tape.trans h.tape, hb.output.trans h.output, Nat.le_trans h.size hb.size, fun k hk hd => (hb.block k (Nat.lt_of_lt_of_le hk h.size)).trans (h.block k hk hd)⟩

/-- A row of the call's own, or an empty one: its block lies from lo on and below hi, and may be written. -/
def OT (w : World) (lo hi : Nat) (A : Option Addr) (n : Nat) (xs : List ByteArray) : Prop :=
  xs.length = n ∧ (0 < n → ∃ g t, ∃ cur : Array Value, A = some ⟨g, 0, none⟩ ∧ lo ≤ g ∧ g < hi ∧ w.heap[g]? = some (.cells cur t (0, 0)) ∧ n * 1 ≤ cur.size ∧ ∀ (i : Nat) (r : ByteArray), xs[i]? = some r → cur[i]? = some (.string r))
section
variable {w w' : World} {lo hi lo' hi' n : Nat} {A : Option Addr} {xs : List ByteArray}
theorem OT.tch (h : OT w lo hi A n xs) (ht : Tch w w' lo' hi') (hs : hi ≤ w.heap.size) (hd : hi ≤ lo' ∨ hi' ≤ lo) : OT w' lo hi A n xs :=
  ⟨h.1, fun hn => by
    obtain ⟨g, t, cur, e, h1, h2, hg, r⟩ := h.2 hn
    exact ⟨g, t, cur, e, h1, h2, (ht.block g (by omega) (by omega)).trans hg, r⟩⟩
theorem OT.below2 (h : OT w lo hi A n xs) (hb : Below w.heap.size w w') : OT w' lo hi A n xs :=
  ⟨h.1, fun hn => by
    obtain ⟨g, t, cur, e, h1, h2, hg, r⟩ := h.2 hn
    exact ⟨g, t, cur, e, h1, h2, (hb.block g (Array.getElem?_eq_some_iff.1 hg).1).trans hg, r⟩⟩
theorem OT.cells (h : OT w lo hi A n xs) (hn : 0 < n) : ∃ g, A = some ⟨g, 0, none⟩ ∧ lo ≤ g ∧ g < hi ∧ g < w.heap.size ∧ (∀ i, w.frozen? ⟨g, i, none⟩ = false) ∧ ∀ (i : Nat) (r : ByteArray), xs[i]? = some r → w.cell? ⟨g, i, none⟩ = some (.string r) := by
  obtain ⟨g, t, cur, e, h1, h2, hg, _, hc⟩ := h.2 hn
  refine ⟨g, e, h1, h2, (Array.getElem?_eq_some_iff.1 hg).1, fun i => by simp [World.frozen?, hg], fun i r hi => ?_⟩
  simp only [cell_of_row w g _ cur t (0, 0) hg]
  exact hc i r hi
theorem OT.at_ (h : OT w lo hi A n xs) {k : Nat} (hk : k < n) : ∃ r, xs[k]? = some r := ⟨xs[k]'(by have := h.1; omega), List.getElem?_eq_getElem _⟩
theorem OT.wide (h : OT w lo hi A n xs) (h1 : lo' ≤ lo) (h2 : hi ≤ hi') : OT w lo' hi' A n xs :=
  ⟨h.1, fun hn => by
    obtain ⟨g, t, cur, e, k1, k2, r⟩ := h.2 hn
    exact ⟨g, t, cur, e, by omega, by omega, r⟩⟩
theorem OT.reads (h : OT w lo hi A n xs) : AT w A n xs :=
  ⟨h.1, fun hn => by
    obtain ⟨g, e, _, _, h1, _, h3⟩ := h.cells hn
    exact ⟨g, 0, e, h1, h.1, fun i r hi => by simpa using h3 i r hi⟩⟩
theorem OT.put0 {g : Nat} (h : OT w lo hi (some ⟨g, 0, none⟩) n xs) {k : Nat} {r : ByteArray} (hk : xs[k]? = some r) (x : ByteArray) : OT (w.setCell ⟨g, k, none⟩ (.string x)) lo hi (some ⟨g, 0, none⟩) n (xs.set k x) := by
  have hkl : k < xs.length := (List.getElem?_eq_some_iff.1 hk).1
  refine ⟨by simpa using h.1, fun hn => ?_⟩
  obtain ⟨g', t, cur, e, h1, h2, hg, hs, hc⟩ := h.2 hn
  simp only [Option.some.injEq, Addr.mk.injEq, and_true] at e
  subst e
  have hl := h.1
  refine ⟨g, t, cur.setIfInBounds (k) (.string x), rfl, h1, h2, by simp [World.setCell, Array.getElem?_modify, hg], by simpa using hs, fun i q hi => ?_⟩
  simp only [Array.getElem?_setIfInBounds]
  rw [List.getElem?_set] at hi
  by_cases e : k = i
  · subst e
    rw [if_pos rfl, if_pos hkl] at hi
    simp only [Option.some.injEq] at hi
    subst hi
    have := hc k r hk
    skip
    all_goals first | (rw [if_pos (by omega), if_pos (by omega)]; done) | (rw [if_neg (by omega)]; simp [this])
  · rw [if_neg e] at hi
    have := hc i q hi
    skip
    all_goals (rw [if_neg (by omega)]; simp [this])
end
def T.mk_ (k : Int) : ByteArray := markB k
def T.marked (n : Nat) (k : Int) : List ByteArray := (List.range n).map fun i : Nat => T.mk_ (k + (i : Int))
theorem T.marked_at {n i : Nat} (k : Int) (hi : i < n) : (T.marked n k)[i]? = some (T.mk_ (k + (i : Int))) := by simp [T.marked, List.getElem?_range hi]
theorem T.marked_len (n : Nat) (k : Int) : (T.marked n k).length = n := by simp [T.marked]

theorem OT.store {w : World} {g lo hi n : Nat} {xs : List ByteArray} (h : OT w lo hi (some ⟨g, 0, none⟩) n xs) {k : Nat} {q : ByteArray} (hk : xs[k]? = some q) (r : ByteArray) : OT (w.setCell ⟨g, k, none⟩ (.string r)) lo hi (some ⟨g, 0, none⟩) n (xs.set k r) := by
  have hkl : k < xs.length := (List.getElem?_eq_some_iff.1 hk).1
  have p0 := h.put0 (k := k) (r := q) hk r
  simpa only [List.set_set] using p0
theorem eqStringS_any (A A' : Option Addr) (n m c d : Nat) (xs ys : List ByteArray) (w : World) (ha : AT w A n xs) (hb : AT w A' m ys) (hn : n ≤ 1048576) (hm : m ≤ 1048576) :
    Gv Try.prog 15 #[.slice A n c, .slice A' m d] w (.bool (decide (xs = ys))) := by
  unfold Gv
  have hl := Lib.hid ha.1
  have hl' := Lib.hid hb.1
  by_cases hnm : n = m
  · subst hnm
    go_enter Try.func15, Try.ntmps15
    go_wp2
    go_loopw [5] (fun i wr => ∃ k : Nat, Below w.heap.size w wr ∧ k ≤ n ∧ i = .int .i64 (k : Int) ∧ Hid (∀ j, j < k → xs[j]? = ys[j]?)) (fun i _ => n - (intOf i).toNat)
    case atStart => exact ⟨0, Below.refl _ _, by omega, rfl, fun j hj => absurd hj (by omega)⟩
    case round =>
      obtain ⟨k, hbw, hk, rfl, hx⟩ := hrel
      obtain ⟨y, rfl⟩ := exists_later hbw
      clear hbw
      by_cases hlt : k < n
      · obtain ⟨b, off, rfl, hs⟩ := ha.2 (by omega)
        obtain ⟨b', off', rfl, hs'⟩ := hb.2 (by omega)
        obtain ⟨r, hr0⟩ := hs.at_ hlt
        obtain ⟨q, hq0⟩ := hs'.at_ hlt
        have c0 := hs.2.2 k r hr0
        have d0 := hs'.2.2 k q hq0
        have hbl := hs.1
        have hbl' := hs'.1
        have hr := Lib.hid hr0
        have hq := Lib.hid hq0
        clear hr0 hq0
        by_cases hrq : r = q
        · have Hrq := Lib.hid hrq
          have hd : (r.toList == q.toList) = true := by simp [hrq]
          clear hrq
          go_wp2_with ((with_reducible refine wp_region_later (by kernel_rfl) (by kernel_rfl) ?_); (repeat (go_big_quiet_step (fail))); refine wpQuiet_nil ?_; rintro _ ⟨xr, rfl⟩)
          go_roundw
          case rel => exact ⟨k + 1, (by repeat (with_reducible first | exact Below.refl _ _ | refine bw_later ?_ _ | refine bw_alloc ?_ _ | refine bw_drew ?_ | refine bw_set ?_ (Nat.le_refl _) _ | refine bw_set ?_ ?_ _ | exact Nat.le_refl _ | exact later_size _ _ | refine Nat.le_trans ?_ (later_size _ _) | refine Nat.le_trans ?_ (size_alloc_le _ _) | refine Nat.le_trans ?_ (Nat.le_add_right _ _))), by omega, by go_num, fun j hj => by
            rcases Nat.lt_or_ge j k with h | h
            · exact hx.out j h
            · obtain rfl : j = k := by omega
              rw [hr.out, hq.out, Hrq.out]⟩
          case measure => simp [intOf]; omega
        · have Hrq := Lib.hid hrq
          have hd : (r.toList == q.toList) = false := by rw [str_eq]; simp [hrq]
          clear hrq
          go_wp2_with ((with_reducible refine wp_region_later (by kernel_rfl) (by kernel_rfl) ?_); (repeat (go_big_quiet_step (fail))); refine wpQuiet_nil ?_; rintro _ ⟨xr, rfl⟩)
          go_ret
          exact ⟨ret_bool (by
            rw [eq_comm, decide_eq_false_iff_not]
            intro h
            subst h
            have := hr.out.symm.trans hq.out
            exact Hrq.out (by simpa using this)), (by repeat (with_reducible first | exact Below.refl _ _ | refine bw_later ?_ _ | refine bw_alloc ?_ _ | refine bw_drew ?_ | refine bw_set ?_ (Nat.le_refl _) _ | refine bw_set ?_ ?_ _ | exact Nat.le_refl _ | exact later_size _ _ | refine Nat.le_trans ?_ (later_size _ _) | refine Nat.le_trans ?_ (size_alloc_le _ _) | refine Nat.le_trans ?_ (Nat.le_add_right _ _)))⟩
      · obtain rfl : k = n := by omega
        go_wp2
        go_ret
        exact ⟨ret_bool (by
          rw [eq_comm, decide_eq_true_iff]
          exact List.ext_getElem? fun j => by
            rcases Nat.lt_or_ge j k with h | h
            · exact hx.out j h
            · rw [List.getElem?_eq_none (by have := hl.out; omega), List.getElem?_eq_none (by have := hl'.out; omega)]), (by repeat (with_reducible first | exact Below.refl _ _ | refine bw_later ?_ _ | refine bw_alloc ?_ _ | refine bw_drew ?_ | refine bw_set ?_ (Nat.le_refl _) _ | refine bw_set ?_ ?_ _ | exact Nat.le_refl _ | exact later_size _ _ | refine Nat.le_trans ?_ (later_size _ _) | refine Nat.le_trans ?_ (size_alloc_le _ _) | refine Nat.le_trans ?_ (Nat.le_add_right _ _)))⟩
  · have hne : ((n : Int) == (m : Int)) = false := by simp; omega
    go_enter Try.func15, Try.ntmps15
    go_wp2
    go_ret
    exact ⟨ret_bool (by
      rw [eq_comm, decide_eq_false_iff_not]
      intro h
      subst h
      exact hnm (hl.out.symm.trans hl'.out)), (by repeat (with_reducible first | exact Below.refl _ _ | refine bw_later ?_ _ | refine bw_alloc ?_ _ | refine bw_drew ?_ | refine bw_set ?_ (Nat.le_refl _) _ | refine bw_set ?_ ?_ _ | exact Nat.le_refl _ | exact later_size _ _ | refine Nat.le_trans ?_ (later_size _ _) | refine Nat.le_trans ?_ (size_alloc_le _ _) | refine Nat.le_trans ?_ (Nat.le_add_right _ _)))⟩
end Go.Proofs.Yteakffedlojcmaa
