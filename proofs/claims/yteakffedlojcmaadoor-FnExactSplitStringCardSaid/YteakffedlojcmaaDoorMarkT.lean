/- The laws' marks on rows of texts. -/
import Derived.Test.YteakffedlojcmaaDoorNum
import Derived.Test.YteakffedlojcmaaDoorSplitL
import Derived.Test.YteakffedlojcmaaDoorOwn
import Derived.Laws.IdiomStrings
namespace Go.Proofs.YteakffedlojcmaaDoor
open Go.RowKit
def markB (k : Int) : ByteArray := mkB (109 :: Lib.decDigits k.toNat)
/-- Slices of texts. -/
def ST (w : World) (g off n : Nat) (xs : List ByteArray) : Prop := g < w.heap.size ∧ xs.length = n ∧ ∀ (i : Nat) (r : ByteArray), xs[i]? = some r → w.cell? ⟨g, off + i, none⟩ = some (.string r)
def AT (w : World) (A : Option Addr) (n : Nat) (xs : List ByteArray) : Prop := xs.length = n ∧ (0 < n → ∃ g off, A = some ⟨g, off, none⟩ ∧ ST w g off n xs)
section
variable {w w' : World} {g off n : Nat} {xs : List ByteArray}
theorem ST.keep (h : ST w g off n xs) (hb : Below (g + 1) w w') : ST w' g off n xs := by
  refine ⟨Nat.lt_of_lt_of_le h.1 hb.size, h.2.1, fun i r hi => ?_⟩
  have := h.2.2 i r hi
  simp only [hb.cell (p := ⟨g, _, none⟩) (Nat.lt_succ_self g)]
  exact this
theorem ST.later (h : ST w g off n xs) (x : Lat w) : ST (later w x) g off n xs := h.keep ((later_below w x).mono h.1)
theorem ST.at_ (h : ST w g off n xs) {k : Nat} (hk : k < n) : ∃ r, xs[k]? = some r := ⟨xs[k]'(by have := h.2.1; omega), List.getElem?_eq_getElem _⟩
theorem AT.below2 {A : Option Addr} (h : AT w A n xs) (hb : Below w.heap.size w w') : AT w' A n xs :=
  ⟨h.1, fun hn => by obtain ⟨g, off, e, hs⟩ := h.2 hn; exact ⟨g, off, e, hs.keep (hb.mono hs.1)⟩⟩
theorem AT.of (h : ST w g off n xs) : AT w (some ⟨g, off, none⟩) n xs := ⟨h.2.1, fun _ => ⟨g, off, rfl, h⟩⟩
end
theorem Tch.more {w w' w'' : World} {lo hi : Nat} (h : Tch w w' lo hi) (hb : Below w'.heap.size w' w'') : Tch w w'' lo hi :=
  ⟨hb.os.trans h.os, hb.tape.trans h.tape, hb.output.trans h.output, Nat.le_trans h.size hb.size, fun k hk hd => (hb.block k (Nat.lt_of_lt_of_le hk h.size)).trans (h.block k hk hd)⟩

/-- A row of the call's own, or an empty one: its block lies from lo on and below hi, and may be written. -/
def OT (w : World) (lo hi : Nat) (A : Option Addr) (n : Nat) (xs : List ByteArray) : Prop :=
  xs.length = n ∧ (0 < n → ∃ g t, ∃ cur : Array Value, A = some ⟨g, 0, none⟩ ∧ lo ≤ g ∧ g < hi ∧ w.heap[g]? = some (.cells cur t (0, 0)) ∧ n * 1 ≤ cur.size ∧ ∀ (i : Nat) (r : ByteArray), xs[i]? = some r → cur[i]? = some (.string r))
section
variable {w w' : World} {lo hi lo' hi' n : Nat} {A : Option Addr} {xs : List ByteArray}
theorem OT.tch (h : OT w lo hi A n xs) (ht : Tch w w' lo' hi') (hs : hi ≤ w.heap.size) (hd : hi ≤ lo' ∨ hi' ≤ lo) : OT w' lo hi A n xs :=
  ⟨h.1, fun hn => by
    obtain ⟨g, t, cur, e, h1, h2, hg, r⟩ := h.2 hn
    exact ⟨g, t, cur, e, h1, h2, (ht.block g (by omega) (by omega)).trans hg, r⟩⟩
theorem OT.below2 (h : OT w lo hi A n xs) (hb : Below w.heap.size w w') : OT w' lo hi A n xs :=
  ⟨h.1, fun hn => by
    obtain ⟨g, t, cur, e, h1, h2, hg, r⟩ := h.2 hn
    exact ⟨g, t, cur, e, h1, h2, (hb.block g (Array.getElem?_eq_some_iff.1 hg).1).trans hg, r⟩⟩
theorem OT.cells (h : OT w lo hi A n xs) (hn : 0 < n) : ∃ g, A = some ⟨g, 0, none⟩ ∧ lo ≤ g ∧ g < hi ∧ g < w.heap.size ∧ (∀ i, w.frozen? ⟨g, i, none⟩ = false) ∧ ∀ (i : Nat) (r : ByteArray), xs[i]? = some r → w.cell? ⟨g, i, none⟩ = some (.string r) := by
  obtain ⟨g, t, cur, e, h1, h2, hg, _, hc⟩ := h.2 hn
  refine ⟨g, e, h1, h2, (Array.getElem?_eq_some_iff.1 hg).1, fun i => by simp [World.frozen?, hg], fun i r hi => ?_⟩
  simp only [cell_of_row w g _ cur t (0, 0) hg]
  exact hc i r hi
theorem OT.at_ (h : OT w lo hi A n xs) {k : Nat} (hk : k < n) : ∃ r, xs[k]? = some r := ⟨xs[k]'(by have := h.1; omega), List.getElem?_eq_getElem _⟩
theorem OT.wide (h : OT w lo hi A n xs) (h1 : lo' ≤ lo) (h2 : hi ≤ hi') : OT w lo' hi' A n xs :=
  ⟨h.1, fun hn => by
    obtain ⟨g, t, cur, e, k1, k2, r⟩ := h.2 hn
    exact ⟨g, t, cur, e, by omega, by omega, r⟩⟩
theorem OT.reads (h : OT w lo hi A n xs) : AT w A n xs :=
  ⟨h.1, fun hn => by
    obtain ⟨g, e, _, _, h1, _, h3⟩ := h.cells hn
    exact ⟨g, 0, e, h1, h.1, fun i r hi => by simpa using h3 i r hi⟩⟩
theorem OT.put0 {g : Nat} (h : OT w lo hi (some ⟨g, 0, none⟩) n xs) {k : Nat} {r : ByteArray} (hk : xs[k]? = some r) (x : ByteArray) : OT (w.setCell ⟨g, k, none⟩ (.string x)) lo hi (some ⟨g, 0, none⟩) n (xs.set k x) := by
  have hkl : k < xs.length := (List.getElem?_eq_some_iff.1 hk).1
  refine ⟨by simpa using h.1, fun hn => ?_⟩
  obtain ⟨g', t, cur, e, h1, h2, hg, hs, hc⟩ := h.2 hn
  simp only [Option.some.injEq, Addr.mk.injEq, and_true] at e
  subst e
  have hl := h.1
  refine ⟨g, t, cur.setIfInBounds (k) (.string x), rfl, h1, h2, by simp [World.setCell, Array.getElem?_modify, hg], by simpa using hs, fun i q hi => ?_⟩
  simp only [Array.getElem?_setIfInBounds]
  rw [List.getElem?_set] at hi
  by_cases e : k = i
  · subst e
    rw [if_pos rfl, if_pos hkl] at hi
    simp only [Option.some.injEq] at hi
    subst hi
    have := hc k r hk
    skip
    all_goals first | (rw [if_pos (by omega), if_pos (by omega)]; done) | (rw [if_neg (by omega)]; simp [this])
  · rw [if_neg e] at hi
    have := hc i q hi
    skip
    all_goals (rw [if_neg (by omega)]; simp [this])
end
def T.mk_ (k : Int) : ByteArray := markB k
def T.marked (n : Nat) (k : Int) : List ByteArray := (List.range n).map fun i : Nat => T.mk_ (k + (i : Int))
theorem T.marked_at {n i : Nat} (k : Int) (hi : i < n) : (T.marked n k)[i]? = some (T.mk_ (k + (i : Int))) := by simp [T.marked, List.getElem?_range hi]
theorem T.marked_len (n : Nat) (k : Int) : (T.marked n k).length = n := by simp [T.marked]

theorem OT.store {w : World} {g lo hi n : Nat} {xs : List ByteArray} (h : OT w lo hi (some ⟨g, 0, none⟩) n xs) {k : Nat} {q : ByteArray} (hk : xs[k]? = some q) (r : ByteArray) : OT (w.setCell ⟨g, k, none⟩ (.string r)) lo hi (some ⟨g, 0, none⟩) n (xs.set k r) := by
  have hkl : k < xs.length := (List.getElem?_eq_some_iff.1 hk).1
  have p0 := h.put0 (k := k) (r := q) hk r
  simpa only [List.set_set] using p0
theorem dig_toNat {d : Nat} (h : d < 10) : (UInt8.ofNat (48 + d)).toNat = 48 + d := by
  rw [UInt8.toNat_ofNat']
  omega
def dgt (k : Nat) : UInt8 := UInt8.ofNat (48 + k % 10)
theorem mkB_cons (c : UInt8) (l : List UInt8) : mkB [c] ++ mkB l = mkB (c :: l) := by
  simp [mkB, ByteArray.ext_iff, ByteArray.data_append]
theorem dec_one {u : Nat} (h : u < 10) : Lib.decDigits u = [UInt8.ofNat (48 + u)] := by rw [Lib.decDigits, dif_pos h]
theorem dec_more {u : Nat} (h : ¬ u < 10) : Lib.decDigits u = Lib.decDigits (u / 10) ++ [UInt8.ofNat (48 + u % 10)] := by rw [Lib.decDigits, dif_neg h]
def RestIs (u k : Nat) (l : List UInt8) : Prop := Lib.decDigits u = (if k = 0 then [] else Lib.decDigits k) ++ l
theorem RestIs.step {u k : Nat} {l : List UInt8} (h : RestIs u k l) (hk : 0 < k) : RestIs u (k / 10) (dgt k :: l) := by
  unfold RestIs dgt at *
  rw [h, if_neg (by omega)]
  by_cases h1 : k < 10
  · rw [dec_one h1, if_pos (by omega), Nat.mod_eq_of_lt h1]
    rfl
  · rw [dec_more h1, if_neg (by omega)]
    simp
theorem RestIs.len {u k : Nat} {l : List UInt8} (h : RestIs u k l) (hu : u ≤ 1000000000000000000) : l.length ≤ 20 := by
  have h1 := congrArg List.length h
  have h2 := Lib.nDigits_le20 u (by omega)
  rw [Lib.decDigits_length, List.length_append] at h1
  omega
theorem dig_conv (k : Nat) (wy : World) : (convert 69 9 (.slice (some ⟨wy.heap.size, 0, none⟩) 1 1)).run Tryd.prog (wy.alloc (.cells #[.int .u8 (48 + (k : Int) % 10)] 5)) = .ok (.string (mkB [dgt k])) (wy.alloc (.cells #[.int .u8 (48 + (k : Int) % 10)] 5)) := by
  have hd := dig_toNat (d := k % 10) (by omega)
  refine run_convert_bytes_back (P := Tryd.prog) (wy.alloc (.cells #[.int .u8 (48 + (k : Int) % 10)] 5)) 69 9 5 ⟨wy.heap.size, 0, none⟩ 1 [UInt8.ofNat (48 + k % 10)] Tryd.underlying69 Tryd.underlying5 Tryd.underlying9 fun j hj => ?_
  obtain rfl : j = 0 := by simpa using hj
  have e1 : (⟨wy.heap.size, 0, none⟩ : Addr).add 0 = ⟨wy.heap.size, 0, none⟩ := by simp [Addr.add]
  rw [e1, World.cell?_alloc_new]
  simp only [List.getElem_cons_zero, hd]
  simp
set_option maxRecDepth 20000 in
theorem markText_any (u : Nat) (h0 : 0 < u) (hu : u ≤ 1000000000000000000) (w : World) : Gv Tryd.prog 38 #[.int .i64 (u : Int)] w (.string (markB (u : Int))) := by
  unfold Gv
  have e0 : decide ((u : Int) ≤ 0) = false := by simp; omega
  have e00 : decide (u = 0) = false := by simp; omega
  go_enter Tryd.func38, Tryd.ntmps38
  go_wp2
  go_loopw [0, 3] (fun kv ov wr => ∃ (k : Nat) (l : List UInt8), Below w.heap.size w wr ∧ kv = .int .i64 (k : Int) ∧ ov = .string (mkB l) ∧ k ≤ u ∧ Hid (RestIs u k l)) (fun kv _ _ => (intOf kv).toNat)
  case atStart => exact ⟨u, [], Below.refl _ _, rfl, rfl, by omega, Lib.hid (by unfold RestIs; rw [if_neg (by omega), List.append_nil])⟩
  case round =>
    obtain ⟨k, l, hb, rfl, rfl, hk, hR⟩ := hrel
    obtain ⟨y, rfl⟩ := exists_later hb
    clear hb
    by_cases hlt : 0 < k
    · have hl := hR.out.len hu
      have hR2 := Lib.hid (hR.out.step hlt)
      have hlt' : decide ((0 : Int) < (k : Int)) = true := by simp; omega
      have hconv := dig_conv k
      have hz : ¬ 9223372036854775807 < 1 + l.length := by omega
      have hz1 : (mkB [dgt k]).size = 1 := rfl
      have hz2 := mkB_size l
      have hcat := mkB_cons (dgt k) l
      go_wp2
      go_roundw
      case rel => exact ⟨k / 10, _, (by repeat (with_reducible first | exact Below.refl _ _ | refine bw_later ?_ _ | refine bw_alloc ?_ _ | refine bw_drew ?_ | refine bw_set ?_ (Nat.le_refl _) _ | refine bw_set ?_ ?_ _ | exact Nat.le_refl _ | exact later_size _ _ | refine Nat.le_trans ?_ (later_size _ _) | refine Nat.le_trans ?_ (size_alloc_le _ _) | refine Nat.le_trans ?_ (Nat.le_add_right _ _))), by go_num, rfl, by omega, hR2⟩
      case measure => simp [intOf]; omega
    · obtain rfl : k = 0 := by omega
      have hl := hR.out.len hu
      have hz : ¬ 9223372036854775807 < 1 + l.length := by omega
      have hz2 := mkB_size l
      have hcat := mkB_cons 109 l
      have hcat2 : (⟨#[109]⟩ : ByteArray) ++ mkB l = mkB (109 :: l) := hcat
      have hfin : Hid (markB (u : Int) = mkB (109 :: l)) := Lib.hid (by
        have := hR.out
        unfold RestIs at this
        unfold markB
        rw [Int.toNat_natCast, this]
        rfl)
      go_wp2
      go_ret
      exact ⟨by rw [hfin.out]; first | rfl | (rw [← hcat2]; rfl), (by repeat (with_reducible first | exact Below.refl _ _ | refine bw_later ?_ _ | refine bw_alloc ?_ _ | refine bw_drew ?_ | refine bw_set ?_ (Nat.le_refl _) _ | refine bw_set ?_ ?_ _ | exact Nat.le_refl _ | exact later_size _ _ | refine Nat.le_trans ?_ (later_size _ _) | refine Nat.le_trans ?_ (size_alloc_le _ _) | refine Nat.le_trans ?_ (Nat.le_add_right _ _)))⟩
theorem markStringS_any (lo hi : Nat) (A : Option Addr) (n c : Nat) (k : Int) (xs : List ByteArray) (w : World) (ho : OT w lo hi A n xs) (hn : n ≤ 1048576) (hk0 : 0 < k) (hk1 : k ≤ 1000) :
    Calls Tryd.prog 15 #[.slice A n c, .int .i64 k] w fun e w' => e = .returned (.int .i64 (k + (n : Int))) ∧ OT w' lo hi A n (T.marked n k) ∧ Tch w w' lo hi := by
  obtain ⟨u, rfl⟩ := Int.eq_ofNat_of_zero_le (show 0 ≤ k by omega)
  go_enter Tryd.func15, Tryd.ntmps15
  go_wp2
  go_loopw [1, 5] (fun s i wr => ∃ (j : Nat) (ys : List ByteArray), j ≤ n ∧ i = .int .i64 (j : Int) ∧ s = .int .i64 ((u : Int) + (j : Int)) ∧ OT wr lo hi A n ys ∧ Tch w wr lo hi ∧ Hid (∀ i, i < j → ys[i]? = some (T.mk_ ((u : Int) + (i : Int))))) (fun _ i _ => n - (intOf i).toNat)
  case atStart => exact ⟨0, xs, by omega, rfl, by simp, ho, Tch.refl _ _ _, fun i hi => absurd hi (by omega)⟩
  case round =>
    obtain ⟨j, ys, hj, rfl, rfl, hO, ht, hx⟩ := hrel
    by_cases hlt : j < n
    · obtain ⟨g, rfl, hlo, hhi, hgs, fz, hc⟩ := hO.cells (by omega)
      obtain ⟨q, hq0⟩ := hO.at_ hlt
      have c0 := hc j q hq0
      have hq := Lib.hid hq0
      clear hq0 hc
      have hkl : j < ys.length := by have := hO.1; omega
      have hmt := Lib.hid (markText_any (u + j) (by omega) (by omega))
      go_wp2_with (go_at_call 38; refine (hmt.out _).on ?_; intro x; have hO1 := hO.below2 (later_below _ x); have hT1 := Lib.hid (later_below _ x))
      go_roundw
      case rel =>
        refine ⟨j + 1, _, by omega, by go_num, by go_num, hO1.store (k := j) hq.out (T.mk_ ((u : Int) + (j : Int))), Tch.set (ht.more hT1.out) hlo hhi _, fun i hi => ?_⟩
        rcases Nat.lt_or_ge i j with h | h
        · rw [List.getElem?_set, if_neg (by omega)]
          exact hx.out i h
        · obtain rfl : i = j := by omega
          simp [hkl]
      case measure => simp [intOf]; omega
    · obtain rfl : j = n := by omega
      go_wp2
      go_ret
      have hxs : ys = T.marked j (u : Int) := List.ext_getElem? fun i => by
        rcases Nat.lt_or_ge i j with h | h
        · rw [T.marked_at (u : Int) h]; exact hx.out i h
        · rw [List.getElem?_eq_none (by have := hO.1; omega), List.getElem?_eq_none (by have := T.marked_len j (u : Int); omega)]
      subst hxs
      exact ⟨rfl, hO, ht⟩
theorem heldStringS_any (A : Option Addr) (n c : Nat) (k : Int) (w : World) (ho : AT w A n (T.marked n k)) (hn : n ≤ 1048576) (hk0 : 0 < k) (hk1 : k ≤ 1000) :
    Gv Tryd.prog 16 #[.slice A n c, .int .i64 k] w (.int .i64 (k + (n : Int))) := by
  obtain ⟨u, rfl⟩ := Int.eq_ofNat_of_zero_le (show 0 ≤ k by omega)
  unfold Gv
  go_enter Tryd.func16, Tryd.ntmps16
  go_wp2
  go_loopw [1, 5] (fun s i wr => ∃ j : Nat, j ≤ n ∧ i = .int .i64 (j : Int) ∧ s = .int .i64 ((u : Int) + (j : Int)) ∧ Below w.heap.size w wr) (fun _ i _ => n - (intOf i).toNat)
  case atStart => exact ⟨0, by omega, rfl, by simp, Below.refl _ _⟩
  case round =>
    obtain ⟨j, hj, rfl, rfl, hb⟩ := hrel
    obtain ⟨y, rfl⟩ := exists_later hb
    clear hb
    by_cases hlt : j < n
    · obtain ⟨g, off, rfl, hs⟩ := ho.2 (by omega)
      have c0 := hs.2.2 j _ (T.marked_at (u : Int) hlt)
      simp only [T.mk_] at c0
      have hgs := hs.1
      have hmt := Lib.hid (markText_any (u + j) (by omega) (by omega))
      go_wp2_with ((with_reducible refine wp_region_later (by kernel_rfl) (by kernel_rfl) ?_); (repeat (go_big_quiet_step ((go_at_call 38; exact (hmt.out _).quiet)))); refine wpQuiet_nil ?_; rintro _ ⟨xr, rfl⟩)
      go_roundw
      case rel => exact ⟨j + 1, by omega, by go_num, by go_num, (by repeat (with_reducible first | exact Below.refl _ _ | refine bw_later ?_ _ | refine bw_alloc ?_ _ | refine bw_drew ?_ | refine bw_set ?_ (Nat.le_refl _) _ | refine bw_set ?_ ?_ _ | exact Nat.le_refl _ | exact later_size _ _ | refine Nat.le_trans ?_ (later_size _ _) | refine Nat.le_trans ?_ (size_alloc_le _ _) | refine Nat.le_trans ?_ (Nat.le_add_right _ _)))⟩
      case measure => simp [intOf]; omega
    · obtain rfl : j = n := by omega
      go_wp2
      go_ret
      exact ⟨rfl, (by repeat (with_reducible first | exact Below.refl _ _ | refine bw_later ?_ _ | refine bw_alloc ?_ _ | refine bw_drew ?_ | refine bw_set ?_ (Nat.le_refl _) _ | refine bw_set ?_ ?_ _ | exact Nat.le_refl _ | exact later_size _ _ | refine Nat.le_trans ?_ (later_size _ _) | refine Nat.le_trans ?_ (size_alloc_le _ _) | refine Nat.le_trans ?_ (Nat.le_add_right _ _)))⟩
theorem eqStringS_any (A A' : Option Addr) (n m c d : Nat) (xs ys : List ByteArray) (w : World) (ha : AT w A n xs) (hb : AT w A' m ys) (hn : n ≤ 1048576) (hm : m ≤ 1048576) :
    Gv Tryd.prog 14 #[.slice A n c, .slice A' m d] w (.bool (decide (xs = ys))) := by
  unfold Gv
  have hl := Lib.hid ha.1
  have hl' := Lib.hid hb.1
  by_cases hnm : n = m
  · subst hnm
    go_enter Tryd.func14, Tryd.ntmps14
    go_wp2
    go_loopw [5] (fun i wr => ∃ k : Nat, Below w.heap.size w wr ∧ k ≤ n ∧ i = .int .i64 (k : Int) ∧ Hid (∀ j, j < k → xs[j]? = ys[j]?)) (fun i _ => n - (intOf i).toNat)
    case atStart => exact ⟨0, Below.refl _ _, by omega, rfl, fun j hj => absurd hj (by omega)⟩
    case round =>
      obtain ⟨k, hbw, hk, rfl, hx⟩ := hrel
      obtain ⟨y, rfl⟩ := exists_later hbw
      clear hbw
      by_cases hlt : k < n
      · obtain ⟨b, off, rfl, hs⟩ := ha.2 (by omega)
        obtain ⟨b', off', rfl, hs'⟩ := hb.2 (by omega)
        obtain ⟨r, hr0⟩ := hs.at_ hlt
        obtain ⟨q, hq0⟩ := hs'.at_ hlt
        have c0 := hs.2.2 k r hr0
        have d0 := hs'.2.2 k q hq0
        have hbl := hs.1
        have hbl' := hs'.1
        have hr := Lib.hid hr0
        have hq := Lib.hid hq0
        clear hr0 hq0
        by_cases hrq : r = q
        · have Hrq := Lib.hid hrq
          have hd : (r.toList == q.toList) = true := by simp [hrq]
          clear hrq
          go_wp2_with ((with_reducible refine wp_region_later (by kernel_rfl) (by kernel_rfl) ?_); (repeat (go_big_quiet_step (fail))); refine wpQuiet_nil ?_; rintro _ ⟨xr, rfl⟩)
          go_roundw
          case rel => exact ⟨k + 1, (by repeat (with_reducible first | exact Below.refl _ _ | refine bw_later ?_ _ | refine bw_alloc ?_ _ | refine bw_drew ?_ | refine bw_set ?_ (Nat.le_refl _) _ | refine bw_set ?_ ?_ _ | exact Nat.le_refl _ | exact later_size _ _ | refine Nat.le_trans ?_ (later_size _ _) | refine Nat.le_trans ?_ (size_alloc_le _ _) | refine Nat.le_trans ?_ (Nat.le_add_right _ _))), by omega, by go_num, fun j hj => by
            rcases Nat.lt_or_ge j k with h | h
            · exact hx.out j h
            · obtain rfl : j = k := by omega
              rw [hr.out, hq.out, Hrq.out]⟩
          case measure => simp [intOf]; omega
        · have Hrq := Lib.hid hrq
          have hd : (r.toList == q.toList) = false := by rw [str_eq]; simp [hrq]
          clear hrq
          go_wp2_with ((with_reducible refine wp_region_later (by kernel_rfl) (by kernel_rfl) ?_); (repeat (go_big_quiet_step (fail))); refine wpQuiet_nil ?_; rintro _ ⟨xr, rfl⟩)
          go_ret
          exact ⟨ret_bool (by
            rw [eq_comm, decide_eq_false_iff_not]
            intro h
            subst h
            have := hr.out.symm.trans hq.out
            exact Hrq.out (by simpa using this)), (by repeat (with_reducible first | exact Below.refl _ _ | refine bw_later ?_ _ | refine bw_alloc ?_ _ | refine bw_drew ?_ | refine bw_set ?_ (Nat.le_refl _) _ | refine bw_set ?_ ?_ _ | exact Nat.le_refl _ | exact later_size _ _ | refine Nat.le_trans ?_ (later_size _ _) | refine Nat.le_trans ?_ (size_alloc_le _ _) | refine Nat.le_trans ?_ (Nat.le_add_right _ _)))⟩
      · obtain rfl : k = n := by omega
        go_wp2
        go_ret
        exact ⟨ret_bool (by
          rw [eq_comm, decide_eq_true_iff]
          exact List.ext_getElem? fun j => by
            rcases Nat.lt_or_ge j k with h | h
            · exact hx.out j h
            · rw [List.getElem?_eq_none (by have := hl.out; omega), List.getElem?_eq_none (by have := hl'.out; omega)]), (by repeat (with_reducible first | exact Below.refl _ _ | refine bw_later ?_ _ | refine bw_alloc ?_ _ | refine bw_drew ?_ | refine bw_set ?_ (Nat.le_refl _) _ | refine bw_set ?_ ?_ _ | exact Nat.le_refl _ | exact later_size _ _ | refine Nat.le_trans ?_ (later_size _ _) | refine Nat.le_trans ?_ (size_alloc_le _ _) | refine Nat.le_trans ?_ (Nat.le_add_right _ _)))⟩
  · have hne : ((n : Int) == (m : Int)) = false := by simp; omega
    go_enter Tryd.func14, Tryd.ntmps14
    go_wp2
    go_ret
    exact ⟨ret_bool (by
      rw [eq_comm, decide_eq_false_iff_not]
      intro h
      subst h
      exact hnm (hl.out.symm.trans hl'.out)), (by repeat (with_reducible first | exact Below.refl _ _ | refine bw_later ?_ _ | refine bw_alloc ?_ _ | refine bw_drew ?_ | refine bw_set ?_ (Nat.le_refl _) _ | refine bw_set ?_ ?_ _ | exact Nat.le_refl _ | exact later_size _ _ | refine Nat.le_trans ?_ (later_size _ _) | refine Nat.le_trans ?_ (size_alloc_le _ _) | refine Nat.le_trans ?_ (Nat.le_add_right _ _)))⟩
end Go.Proofs.YteakffedlojcmaaDoor
