/- The cabins that have made many trips. -/
import Derived.Test.YtnemamokjikdeaaOrder
import Derived.Test.YtnemamokjikdeaaFirst
import Derived.Test.YtnemamokjikdeaaMark
namespace Go.Proofs.Ytnemamokjikdeaa
open Go Go.RowKit Go.Sort
theorem infoInt : (Try.prog.info? 3).map (fun i => (i.zero, i.size, i.bytes)) = some (some (.int .i64 0), 1, 8) := by kernel_rfl
def wornP (t : Int) (r : R5) : Bool := (r.d == 3) || decide (r.e < t)
def wornL (t : Int) (xs : List R5) : List R5 := (sortD (fun r => r.e) xs).filter (fun r => !wornP t r)
def wornF (xs : List R5) (t : Int) : List Int × Bool := if okList isCabin 12 xs && inB t 1 99999 then ((wornL t xs).map (fun r => r.a), true) else ([], false)
theorem clo_worn_any (t : Int) (gT : Nat) (r : R5) (w : World) (hN : w.cell? ⟨gT, 0, none⟩ = some (.int .i64 t)) : Gv Try.prog 58 (#[r.v] ++ #[.pointer (some ⟨gT, 0, none⟩)]) w (.bool (wornP t r)) := by
  show Gv Try.prog 58 #[r.v, .pointer (some ⟨gT, 0, none⟩)] w (.bool (wornP t r))
  unfold Gv R5.v wornP
  have hg := World.block_lt_of_cell? w _ hN
  simp only at hg
  cases h : (r.d == 3)
  all_goals
    go_enter Try.func58, Try.ntmps58
    go_wp2
    all_goals (go_ret; exact ⟨rfl, (by repeat (with_reducible first | exact hbD | exact Below.refl _ _ | refine bw_later ?_ _ | refine bw_alloc ?_ _ | refine bw_drew ?_ | refine bw_set ?_ (Nat.le_refl _) _ | refine bw_set ?_ ?_ _ | exact Nat.le_refl _ | exact later_size _ _ | refine Nat.le_trans ?_ (later_size _ _) | refine Nat.le_trans ?_ (size_alloc_le _ _) | refine Nat.le_trans ?_ (Nat.le_add_right _ _)))⟩)
theorem map_take {xs : List R5} {f : R5 → Int} {k : Nat} {r : R5} (hr : xs[k]? = some r) : (xs.take (k + 1)).map f = (xs.take k).map f ++ [f r] := by
  simp [List.take_add_one, hr]
theorem OR5.sr0 {w : World} {lo hi g n : Nat} {xs : List R5} (h : OR5 w lo hi (some ⟨g, 0, none⟩) n xs) (hg : g < w.heap.size) : SR5 w g 0 n xs := by
  rcases Nat.eq_zero_or_pos n with h0 | h0
  · subst h0
    have : xs = [] := List.eq_nil_of_length_eq_zero h.1
    subst this
    exact ⟨hg, rfl, fun i r hi => by simp at hi⟩
  · exact h.sr h0
set_option maxHeartbeats 4000000 in
theorem i_WornCabins_any (g off n c : Nat) (xs : List R5) (t : Int) (w : World) (hs : SR5 w g off n xs) (hn : n ≤ 1048576) : GI Try.prog 38 #[.slice (some ⟨g, off, none⟩) n c, .int .i64 t] w (wornF xs t) := by
  unfold GI
  obtain ⟨i0, hi, hz0, hz1, hz2⟩ := info_parts infoInt
  have Hi := Lib.hid hi
  have Hz0 := Lib.hid hz0
  have Hz1 := Lib.hid hz1
  have Hz2 := Lib.hid hz2
  clear hi hz0 hz1 hz2
  have hl := Lib.hid hs.2.1
  have hg := hs.1
  cases h0 : okList isCabin 12 xs
  · have hfin := Lib.hid (show wornF xs t = ([], false) by simp [wornF, h0])
    go_enter Try.func38, Try.ntmps38
    go_wp2_with (first | (go_at_call 20; (first | refine (impl_AreCabins_ok g off n c xs _ (by first | exact hs | exact hs.later _ | exact hs.alloc _ | exact (hs.alloc _).later _ | exact (hs.later _).alloc _ | exact ((hs.later _).alloc _).later _ | exact ((hs.alloc _).later _).alloc _ | exact (hs.alloc _).alloc _ | exact ((hs.alloc _).alloc _).later _ | exact (((hs.alloc _).later _).alloc _).later _) hn).onL ?_ | refine (impl_AreCabins_ok g off n c xs _ (by first | exact hs | exact hs.later _ | exact hs.alloc _ | exact (hs.alloc _).later _ | exact (hs.later _).alloc _ | exact ((hs.later _).alloc _).later _ | exact ((hs.alloc _).later _).alloc _ | exact (hs.alloc _).alloc _ | exact ((hs.alloc _).alloc _).later _ | exact (((hs.alloc _).later _).alloc _).later _) hn).on ?_); intro xq) | (go_at_call 40; (first | refine (within_any _ _ _ _).onL ?_ | refine (within_any _ _ _ _).on ?_); intro xq))
    all_goals (go_ret2; rw [hfin.out]; exact IntsB.none_ (by repeat (with_reducible first | exact hbD | exact Below.refl _ _ | refine bw_later ?_ _ | refine bw_alloc ?_ _ | refine bw_drew ?_ | refine bw_set ?_ (Nat.le_refl _) _ | refine bw_set ?_ ?_ _ | exact Nat.le_refl _ | exact later_size _ _ | refine Nat.le_trans ?_ (later_size _ _) | refine Nat.le_trans ?_ (size_alloc_le _ _) | refine Nat.le_trans ?_ (Nat.le_add_right _ _))))
  cases h1 : inB t 1 99999
  · have hfin := Lib.hid (show wornF xs t = ([], false) by simp [wornF, h0, h1])
    go_enter Try.func38, Try.ntmps38
    go_wp2_with (first | (go_at_call 20; (first | refine (impl_AreCabins_ok g off n c xs _ (by first | exact hs | exact hs.later _ | exact hs.alloc _ | exact (hs.alloc _).later _ | exact (hs.later _).alloc _ | exact ((hs.later _).alloc _).later _ | exact ((hs.alloc _).later _).alloc _ | exact (hs.alloc _).alloc _ | exact ((hs.alloc _).alloc _).later _ | exact (((hs.alloc _).later _).alloc _).later _) hn).onL ?_ | refine (impl_AreCabins_ok g off n c xs _ (by first | exact hs | exact hs.later _ | exact hs.alloc _ | exact (hs.alloc _).later _ | exact (hs.later _).alloc _ | exact ((hs.later _).alloc _).later _ | exact ((hs.alloc _).later _).alloc _ | exact (hs.alloc _).alloc _ | exact ((hs.alloc _).alloc _).later _ | exact (((hs.alloc _).later _).alloc _).later _) hn).on ?_); intro xq) | (go_at_call 40; (first | refine (within_any _ _ _ _).onL ?_ | refine (within_any _ _ _ _).on ?_); intro xq))
    all_goals (go_ret2; rw [hfin.out]; exact IntsB.none_ (by repeat (with_reducible first | exact hbD | exact Below.refl _ _ | refine bw_later ?_ _ | refine bw_alloc ?_ _ | refine bw_drew ?_ | refine bw_set ?_ (Nat.le_refl _) _ | refine bw_set ?_ ?_ _ | exact Nat.le_refl _ | exact later_size _ _ | refine Nat.le_trans ?_ (later_size _ _) | refine Nat.le_trans ?_ (size_alloc_le _ _) | refine Nat.le_trans ?_ (Nat.le_add_right _ _))))
  have hfin := Lib.hid (show wornF xs t = ((wornL t xs).map (fun r => r.a), true) by simp [wornF, h0, h1])
  obtain ⟨hgood, h12⟩ := okList_t h0 hs.2.1
  clear hgood
  go_enter Try.func38, Try.ntmps38
  go_wp2_with (first | (go_at_call 54; refine Calls.mono (sort_worn_any g2 m c2 _ w4 hO4 q4 (by omega)) ?_; rintro _ w5 ⟨rfl, hO5, ht5⟩; have q5 : g2 < w5.heap.size := Nat.lt_of_lt_of_le q4 ht5.size; have hb5 : Below (w.alloc (.cells #[.int .i64 t] 3)).heap.size (w.alloc (.cells #[.int .i64 t] 3)) w5 := (hbx.trans (ht4.below q1 hbx.size)).trans (ht5.below q1 (Nat.le_trans hbx.size ht4.size)); have h5 := hO5.sr0 q5; rw [sortD_filter] at h5; have h5l := Lib.hid h5.2.1; clear hO3 hO4 hO5 ht4 ht5 hbx hF3 hcap) | (go_at_call 52; refine Calls.mono (del_worn_any (wornP t) (fun W : World => W.cell? ⟨w.heap.size, 0, none⟩ = some (.int .i64 t)) w.heap.size g2 (fun W W' h hb => by rw [hb.cell (p := ⟨w.heap.size, 0, none⟩) (World.block_lt_of_cell? W _ h)]; exact h) (fun W i u h => by rw [World.cell?_setCell_other W _ _ u (by simp; simp at q1; omega)]; exact h) (fun r W h => clo_worn_any t w.heap.size r W h) n c2 xs w3 hO3 q2 hn hcap hF3) ?_; rintro _ w4 ⟨m, rfl, hmn, hO4, ht4, -⟩; have q4 : g2 < w4.heap.size := Nat.lt_of_lt_of_le q2 ht4.size) | (go_at_call 49; refine Calls.mono (cloneR5c_any g off n c xs _ (by first | exact hs | exact hs.later _ | exact hs.alloc _ | exact (hs.alloc _).later _ | exact (hs.later _).alloc _ | exact ((hs.later _).alloc _).later _ | exact ((hs.alloc _).later _).alloc _ | exact (hs.alloc _).alloc _ | exact ((hs.alloc _).alloc _).later _ | exact (((hs.alloc _).later _).alloc _).later _) hn) ?_; rintro _ w3 ⟨g2, c2, rfl, q1, hO3, q2, hcap, b3⟩; have hbx : Below (w.alloc (.cells #[.int .i64 t] 3)).heap.size (w.alloc (.cells #[.int .i64 t] 3)) w3 := bw_trans (a := (w.alloc (.cells #[.int .i64 t] 3))) (by repeat (with_reducible first | exact hbD | exact Below.refl _ _ | refine bw_later ?_ _ | refine bw_alloc ?_ _ | refine bw_drew ?_ | refine bw_set ?_ (Nat.le_refl _) _ | refine bw_set ?_ ?_ _ | exact Nat.le_refl _ | exact later_size _ _ | refine Nat.le_trans ?_ (later_size _ _) | refine Nat.le_trans ?_ (size_alloc_le _ _) | refine Nat.le_trans ?_ (Nat.le_add_right _ _))) b3; have q1 : (w.alloc (.cells #[.int .i64 t] 3)).heap.size ≤ g2 := Nat.le_trans (Below.size (show Below (w.alloc (.cells #[.int .i64 t] 3)).heap.size (w.alloc (.cells #[.int .i64 t] 3)) _ from (by repeat (with_reducible first | exact hbD | exact Below.refl _ _ | refine bw_later ?_ _ | refine bw_alloc ?_ _ | refine bw_drew ?_ | refine bw_set ?_ (Nat.le_refl _) _ | refine bw_set ?_ ?_ _ | exact Nat.le_refl _ | exact later_size _ _ | refine Nat.le_trans ?_ (later_size _ _) | refine Nat.le_trans ?_ (size_alloc_le _ _) | refine Nat.le_trans ?_ (Nat.le_add_right _ _))))) q1; have hF3 : w3.cell? ⟨w.heap.size, 0, none⟩ = some (.int .i64 t) := (by rw [hbx.cell (p := ⟨w.heap.size, 0, none⟩) (by simp)]; go_simp); clear b3) | (go_at_call 20; (first | refine (impl_AreCabins_ok g off n c xs _ (by first | exact hs | exact hs.later _ | exact hs.alloc _ | exact (hs.alloc _).later _ | exact (hs.later _).alloc _ | exact ((hs.later _).alloc _).later _ | exact ((hs.alloc _).later _).alloc _ | exact (hs.alloc _).alloc _ | exact ((hs.alloc _).alloc _).later _ | exact (((hs.alloc _).later _).alloc _).later _) hn).onL ?_ | refine (impl_AreCabins_ok g off n c xs _ (by first | exact hs | exact hs.later _ | exact hs.alloc _ | exact (hs.alloc _).later _ | exact (hs.later _).alloc _ | exact ((hs.later _).alloc _).later _ | exact ((hs.alloc _).later _).alloc _ | exact (hs.alloc _).alloc _ | exact ((hs.alloc _).alloc _).later _ | exact (((hs.alloc _).later _).alloc _).later _) hn).on ?_); intro xq) | (go_at_call 40; (first | refine (within_any _ _ _ _).onL ?_ | refine (within_any _ _ _ _).on ?_); intro xq))
  have hge : w.heap.size ≤ w5.heap.size := Nat.le_trans (by simp) hb5.size
  go_loopw [7, 27] (fun o i wr => ∃ k : Nat, Below w5.heap.size w5 wr ∧ k ≤ m ∧ i = .int .i64 (k : Int) ∧ wr.ownsRow w5.heap.size 3 1 o k ((((wornL t xs).take k).map (fun r => r.a)).map (Value.int .i64))) (fun _ i _ => m - (intOf i).toNat)
  case atStart => exact ⟨0, (by repeat (with_reducible first | exact hbD | exact Below.refl _ _ | refine bw_later ?_ _ | refine bw_alloc ?_ _ | refine bw_drew ?_ | refine bw_set ?_ (Nat.le_refl _) _ | refine bw_set ?_ ?_ _ | exact Nat.le_refl _ | exact later_size _ _ | refine Nat.le_trans ?_ (later_size _ _) | refine Nat.le_trans ?_ (size_alloc_le _ _) | refine Nat.le_trans ?_ (Nat.le_add_right _ _))), by omega, rfl, World.ownsRow_made w5 #[] 0 (Nat.le_refl _) (by decide) rfl⟩
  case round =>
    obtain ⟨k, hbw, hk, rfl, hown⟩ := hrel
    obtain ⟨y, rfl⟩ := exists_later hbw
    clear hbw
    have hgy := lt_later _ y g2 q5
    by_cases hlt : k < m
    · obtain ⟨r, hr0⟩ := h5.at_ hlt
      obtain ⟨d0, d1, d2, d3, d4⟩ := h5.2.2 k r hr0
      simp only [Nat.zero_add] at d0 d1 d2 d3 d4
      have hr := Lib.hid hr0
      clear hr0
      go_wp2_with (at_builtin; refine push_law rfl _ _ _ rfl i0 _ 1 8 Try.underlying41 Hi.out Hz0.out Hz1.out Hz2.out rfl (by decide) _ _ _ rfl (by first | exact hown | exact hown.alloc _) (w0 := w5) (by repeat (with_reducible first | exact hbD | exact Below.refl _ _ | refine bw_later ?_ _ | refine bw_alloc ?_ _ | refine bw_drew ?_ | refine bw_set ?_ (Nat.le_refl _) _ | refine bw_set ?_ ?_ _ | exact Nat.le_refl _ | exact later_size _ _ | refine Nat.le_trans ?_ (later_size _ _) | refine Nat.le_trans ?_ (size_alloc_le _ _) | refine Nat.le_trans ?_ (Nat.le_add_right _ _))) _ (by simp) rfl rfl (by simp [Value.oneCell']) (by omega) (by omega) ?_; intro v1 y1 hown1)
      go_roundw
      case rel => exact ⟨k + 1, (by repeat (with_reducible first | exact hbD | exact Below.refl _ _ | refine bw_later ?_ _ | refine bw_alloc ?_ _ | refine bw_drew ?_ | refine bw_set ?_ (Nat.le_refl _) _ | refine bw_set ?_ ?_ _ | exact Nat.le_refl _ | exact later_size _ _ | refine Nat.le_trans ?_ (later_size _ _) | refine Nat.le_trans ?_ (size_alloc_le _ _) | refine Nat.le_trans ?_ (Nat.le_add_right _ _))), by omega, by go_num, by rw [map_take (f := fun r => r.a) (show (wornL t xs)[k]? = some r from hr.out)]; simpa using hown1⟩
      case measure => simp [intOf]; omega
    · obtain rfl : k = m := by omega
      go_wp2
      go_ret2
      rw [hfin.out]
      have e : (wornL t xs).take k = wornL t xs := List.take_of_length_le (by have := h5l.out; show ((sortD (fun r => r.e) xs).filter _).length ≤ k; omega)
      rw [e] at hown
      exact IntsB.some_ (own_low hown hge) (by omega) (bw_trans (a := w) (b := (w.alloc (.cells #[.int .i64 t] 3))) (by repeat (with_reducible first | exact hbD | exact Below.refl _ _ | refine bw_later ?_ _ | refine bw_alloc ?_ _ | refine bw_drew ?_ | refine bw_set ?_ (Nat.le_refl _) _ | refine bw_set ?_ ?_ _ | exact Nat.le_refl _ | exact later_size _ _ | refine Nat.le_trans ?_ (later_size _ _) | refine Nat.le_trans ?_ (size_alloc_le _ _) | refine Nat.le_trans ?_ (Nat.le_add_right _ _))) (bw_trans hb5 (by repeat (with_reducible first | exact hbD | exact Below.refl _ _ | refine bw_later ?_ _ | refine bw_alloc ?_ _ | refine bw_drew ?_ | refine bw_set ?_ (Nat.le_refl _) _ | refine bw_set ?_ ?_ _ | exact Nat.le_refl _ | exact later_size _ _ | refine Nat.le_trans ?_ (later_size _ _) | refine Nat.le_trans ?_ (size_alloc_le _ _) | refine Nat.le_trans ?_ (Nat.le_add_right _ _)))))
set_option maxHeartbeats 4000000 in
theorem s_WornCabins_any (g off n c : Nat) (xs : List R5) (t : Int) (w : World) (hs : SR5 w g off n xs) (hn : n ≤ 1048576) : GI Try.prog 37 #[.slice (some ⟨g, off, none⟩) n c, .int .i64 t] w (wornF xs t) := by
  unfold GI
  obtain ⟨i0, hi, hz0, hz1, hz2⟩ := info_parts infoInt
  have Hi := Lib.hid hi
  have Hz0 := Lib.hid hz0
  have Hz1 := Lib.hid hz1
  have Hz2 := Lib.hid hz2
  clear hi hz0 hz1 hz2
  have hl := Lib.hid hs.2.1
  have hg := hs.1
  cases h0 : okList isCabin 12 xs
  · have hfin := Lib.hid (show wornF xs t = ([], false) by simp [wornF, h0])
    go_enter Try.func37, Try.ntmps37
    go_wp2_with (first | (go_at_call 42; (first | refine (l5Good_ok g off n c xs _ (by first | exact hs | exact hs.later _ | exact hs.alloc _ | exact (hs.alloc _).later _ | exact (hs.later _).alloc _ | exact ((hs.later _).alloc _).later _ | exact ((hs.alloc _).later _).alloc _ | exact (hs.alloc _).alloc _ | exact ((hs.alloc _).alloc _).later _ | exact (((hs.alloc _).later _).alloc _).later _) hn).onL ?_ | refine (l5Good_ok g off n c xs _ (by first | exact hs | exact hs.later _ | exact hs.alloc _ | exact (hs.alloc _).later _ | exact (hs.later _).alloc _ | exact ((hs.later _).alloc _).later _ | exact ((hs.alloc _).later _).alloc _ | exact (hs.alloc _).alloc _ | exact ((hs.alloc _).alloc _).later _ | exact (((hs.alloc _).later _).alloc _).later _) hn).on ?_); intro xq) | (go_at_call 41; (first | refine (in_any _ _ _ _).onL ?_ | refine (in_any _ _ _ _).on ?_); intro xq))
    all_goals (go_ret2; rw [hfin.out]; exact IntsB.none_ (by repeat (with_reducible first | exact hbD | exact Below.refl _ _ | refine bw_later ?_ _ | refine bw_alloc ?_ _ | refine bw_drew ?_ | refine bw_set ?_ (Nat.le_refl _) _ | refine bw_set ?_ ?_ _ | exact Nat.le_refl _ | exact later_size _ _ | refine Nat.le_trans ?_ (later_size _ _) | refine Nat.le_trans ?_ (size_alloc_le _ _) | refine Nat.le_trans ?_ (Nat.le_add_right _ _))))
  cases h1 : inB t 1 99999
  · have hfin := Lib.hid (show wornF xs t = ([], false) by simp [wornF, h0, h1])
    go_enter Try.func37, Try.ntmps37
    go_wp2_with (first | (go_at_call 42; (first | refine (l5Good_ok g off n c xs _ (by first | exact hs | exact hs.later _ | exact hs.alloc _ | exact (hs.alloc _).later _ | exact (hs.later _).alloc _ | exact ((hs.later _).alloc _).later _ | exact ((hs.alloc _).later _).alloc _ | exact (hs.alloc _).alloc _ | exact ((hs.alloc _).alloc _).later _ | exact (((hs.alloc _).later _).alloc _).later _) hn).onL ?_ | refine (l5Good_ok g off n c xs _ (by first | exact hs | exact hs.later _ | exact hs.alloc _ | exact (hs.alloc _).later _ | exact (hs.later _).alloc _ | exact ((hs.later _).alloc _).later _ | exact ((hs.alloc _).later _).alloc _ | exact (hs.alloc _).alloc _ | exact ((hs.alloc _).alloc _).later _ | exact (((hs.alloc _).later _).alloc _).later _) hn).on ?_); intro xq) | (go_at_call 41; (first | refine (in_any _ _ _ _).onL ?_ | refine (in_any _ _ _ _).on ?_); intro xq))
    all_goals (go_ret2; rw [hfin.out]; exact IntsB.none_ (by repeat (with_reducible first | exact hbD | exact Below.refl _ _ | refine bw_later ?_ _ | refine bw_alloc ?_ _ | refine bw_drew ?_ | refine bw_set ?_ (Nat.le_refl _) _ | refine bw_set ?_ ?_ _ | exact Nat.le_refl _ | exact later_size _ _ | refine Nat.le_trans ?_ (later_size _ _) | refine Nat.le_trans ?_ (size_alloc_le _ _) | refine Nat.le_trans ?_ (Nat.le_add_right _ _))))
  have hfin := Lib.hid (show wornF xs t = ((wornL t xs).map (fun r => r.a), true) by simp [wornF, h0, h1])
  obtain ⟨hgood, h12⟩ := okList_t h0 hs.2.1
  clear hgood
  go_enter Try.func37, Try.ntmps37
  go_wp2_with (first | (go_at_call 50; refine Calls.mono (order_worn_any g off n c xs _ (by first | exact hs | exact hs.later _ | exact hs.alloc _ | exact (hs.alloc _).later _ | exact (hs.later _).alloc _ | exact ((hs.later _).alloc _).later _ | exact ((hs.alloc _).later _).alloc _ | exact (hs.alloc _).alloc _ | exact ((hs.alloc _).alloc _).later _ | exact (((hs.alloc _).later _).alloc _).later _) hn) ?_; rintro _ w5 ⟨go, cap, rfl, hO5, q5, hb5'⟩; have hb5 : Below (w.alloc (.cells #[] 3)).heap.size (w.alloc (.cells #[] 3)) w5 := bw_trans (a := (w.alloc (.cells #[] 3))) (by repeat (with_reducible first | exact hbD | exact Below.refl _ _ | refine bw_later ?_ _ | refine bw_alloc ?_ _ | refine bw_drew ?_ | refine bw_set ?_ (Nat.le_refl _) _ | refine bw_set ?_ ?_ _ | exact Nat.le_refl _ | exact later_size _ _ | refine Nat.le_trans ?_ (later_size _ _) | refine Nat.le_trans ?_ (size_alloc_le _ _) | refine Nat.le_trans ?_ (Nat.le_add_right _ _))) hb5'; clear hb5') | (go_at_call 42; (first | refine (l5Good_ok g off n c xs _ (by first | exact hs | exact hs.later _ | exact hs.alloc _ | exact (hs.alloc _).later _ | exact (hs.later _).alloc _ | exact ((hs.later _).alloc _).later _ | exact ((hs.alloc _).later _).alloc _ | exact (hs.alloc _).alloc _ | exact ((hs.alloc _).alloc _).later _ | exact (((hs.alloc _).later _).alloc _).later _) hn).onL ?_ | refine (l5Good_ok g off n c xs _ (by first | exact hs | exact hs.later _ | exact hs.alloc _ | exact (hs.alloc _).later _ | exact (hs.later _).alloc _ | exact ((hs.later _).alloc _).later _ | exact ((hs.alloc _).later _).alloc _ | exact (hs.alloc _).alloc _ | exact ((hs.alloc _).alloc _).later _ | exact (((hs.alloc _).later _).alloc _).later _) hn).on ?_); intro xq) | (go_at_call 41; (first | refine (in_any _ _ _ _).onL ?_ | refine (in_any _ _ _ _).on ?_); intro xq))
  have hge : w.heap.size ≤ w5.heap.size := Nat.le_trans (by simp) hb5.size
  have h5 := hO5.sr0 q5
  have h5l := Lib.hid h5.2.1
  clear hO5
  go_loopw [6, 8] (fun o i wr => ∃ k : Nat, Below w5.heap.size w5 wr ∧ k ≤ n ∧ i = .int .i64 (k : Int) ∧ ((o = .slice (some ⟨w.heap.size, 0, none⟩) 0 0 ∧ pickTo (fun r => !wornP t r) (fun r => r.a) (sortD (fun r => r.e) xs) k = []) ∨ wr.ownsRow w5.heap.size 3 1 o (pickTo (fun r => !wornP t r) (fun r => r.a) (sortD (fun r => r.e) xs) k).length ((pickTo (fun r => !wornP t r) (fun r => r.a) (sortD (fun r => r.e) xs) k).map (Value.int .i64)))) (fun _ i _ => n - (intOf i).toNat)
  case atStart => exact ⟨0, (by repeat (with_reducible first | exact hbD | exact Below.refl _ _ | refine bw_later ?_ _ | refine bw_alloc ?_ _ | refine bw_drew ?_ | refine bw_set ?_ (Nat.le_refl _) _ | refine bw_set ?_ ?_ _ | exact Nat.le_refl _ | exact later_size _ _ | refine Nat.le_trans ?_ (later_size _ _) | refine Nat.le_trans ?_ (size_alloc_le _ _) | refine Nat.le_trans ?_ (Nat.le_add_right _ _))), by omega, rfl, .inl ⟨rfl, rfl⟩⟩
  case round =>
    obtain ⟨k, hbw, hk, rfl, hown⟩ := hrel
    obtain ⟨y, rfl⟩ := exists_later hbw
    clear hbw
    have hgy := lt_later _ y go q5
    have hpl := pick_len (fun r => !wornP t r) (fun r => r.a) (sortD (fun r => r.e) xs) k
    rcases hown with ⟨rfl, hnil⟩ | hown
    · by_cases hlt : k < n
      · obtain ⟨r, hr0⟩ := h5.at_ hlt
        obtain ⟨d0, d1, d2, d3, d4⟩ := h5.2.2 k r hr0
        simp only [Nat.zero_add] at d0 d1 d2 d3 d4
        have hr := Lib.hid hr0
        clear hr0
        cases h1 : (r.d == 3)
        · have h1' : (r.d != 3) = true := by simp only [bne, h1]; rfl
          cases h2 : decide (r.e < t)
          · have h2' : decide (t ≤ r.e) = true := by simp at h2 ⊢; omega
            have hq := Lib.hid (show (!wornP t r) = true by simp only [wornP, h1, h2]; rfl)
            go_wp2_with (at_builtin; refine push_first rfl _ _ _ rfl i0 _ 1 8 Try.underlying41 Hi.out Hz0.out Hz1.out Hz2.out rfl _ rfl (w0 := w5) (by repeat (with_reducible first | exact hbD | exact Below.refl _ _ | refine bw_later ?_ _ | refine bw_alloc ?_ _ | refine bw_drew ?_ | refine bw_set ?_ (Nat.le_refl _) _ | refine bw_set ?_ ?_ _ | exact Nat.le_refl _ | exact later_size _ _ | refine Nat.le_trans ?_ (later_size _ _) | refine Nat.le_trans ?_ (size_alloc_le _ _) | refine Nat.le_trans ?_ (Nat.le_add_right _ _))) _ (by simp) rfl rfl (by omega) ?_; intro v1 y1 hown1)
            go_roundw
            case rel => exact ⟨k + 1, (by repeat (with_reducible first | exact hbD | exact Below.refl _ _ | refine bw_later ?_ _ | refine bw_alloc ?_ _ | refine bw_drew ?_ | refine bw_set ?_ (Nat.le_refl _) _ | refine bw_set ?_ ?_ _ | exact Nat.le_refl _ | exact later_size _ _ | refine Nat.le_trans ?_ (later_size _ _) | refine Nat.le_trans ?_ (size_alloc_le _ _) | refine Nat.le_trans ?_ (Nat.le_add_right _ _))), by omega, by go_num, .inr (by rw [pick_yes hr.out hq.out, hnil]; simpa using hown1)⟩
            case measure => simp [intOf]; omega
          · have h2' : decide (t ≤ r.e) = false := by simp at h2 ⊢; omega
            have hq := Lib.hid (show (!wornP t r) = false by simp only [wornP, h1, h2]; rfl)
            go_wp2
            go_roundw
            case rel => exact ⟨k + 1, (by repeat (with_reducible first | exact hbD | exact Below.refl _ _ | refine bw_later ?_ _ | refine bw_alloc ?_ _ | refine bw_drew ?_ | refine bw_set ?_ (Nat.le_refl _) _ | refine bw_set ?_ ?_ _ | exact Nat.le_refl _ | exact later_size _ _ | refine Nat.le_trans ?_ (later_size _ _) | refine Nat.le_trans ?_ (size_alloc_le _ _) | refine Nat.le_trans ?_ (Nat.le_add_right _ _))), by omega, by go_num, .inl ⟨rfl, by rw [pick_no hr.out hq.out]; exact hnil⟩⟩
            case measure => simp [intOf]; omega
        · have h1' : (r.d != 3) = false := by simp only [bne, h1]; rfl
          have hq := Lib.hid (show (!wornP t r) = false by simp only [wornP, h1]; rfl)
          go_wp2
          go_roundw
          case rel => exact ⟨k + 1, (by repeat (with_reducible first | exact hbD | exact Below.refl _ _ | refine bw_later ?_ _ | refine bw_alloc ?_ _ | refine bw_drew ?_ | refine bw_set ?_ (Nat.le_refl _) _ | refine bw_set ?_ ?_ _ | exact Nat.le_refl _ | exact later_size _ _ | refine Nat.le_trans ?_ (later_size _ _) | refine Nat.le_trans ?_ (size_alloc_le _ _) | refine Nat.le_trans ?_ (Nat.le_add_right _ _))), by omega, by go_num, .inl ⟨rfl, by rw [pick_no hr.out hq.out]; exact hnil⟩⟩
          case measure => simp [intOf]; omega
      · obtain rfl : k = n := by omega
        go_wp2
        go_ret2
        rw [hfin.out]
        have e : (wornL t xs).map (fun r => r.a) = pickTo (fun r => !wornP t r) (fun r => r.a) (sortD (fun r => r.e) xs) k := by
          show _ = (((sortD (fun r => r.e) xs).take k).filter _).map _
          rw [List.take_of_length_le (by have := h5l.out; omega)]
          rfl
        rw [e]
        rw [hnil]
        exact ⟨_, 0, _, rfl, ⟨rfl, fun h => absurd h (by omega)⟩, by omega, (bw_trans (a := w) (b := (w.alloc (.cells #[] 3))) (by repeat (with_reducible first | exact hbD | exact Below.refl _ _ | refine bw_later ?_ _ | refine bw_alloc ?_ _ | refine bw_drew ?_ | refine bw_set ?_ (Nat.le_refl _) _ | refine bw_set ?_ ?_ _ | exact Nat.le_refl _ | exact later_size _ _ | refine Nat.le_trans ?_ (later_size _ _) | refine Nat.le_trans ?_ (size_alloc_le _ _) | refine Nat.le_trans ?_ (Nat.le_add_right _ _))) (bw_trans hb5 (by repeat (with_reducible first | exact hbD | exact Below.refl _ _ | refine bw_later ?_ _ | refine bw_alloc ?_ _ | refine bw_drew ?_ | refine bw_set ?_ (Nat.le_refl _) _ | refine bw_set ?_ ?_ _ | exact Nat.le_refl _ | exact later_size _ _ | refine Nat.le_trans ?_ (later_size _ _) | refine Nat.le_trans ?_ (size_alloc_le _ _) | refine Nat.le_trans ?_ (Nat.le_add_right _ _)))))⟩
    · by_cases hlt : k < n
      · obtain ⟨r, hr0⟩ := h5.at_ hlt
        obtain ⟨d0, d1, d2, d3, d4⟩ := h5.2.2 k r hr0
        simp only [Nat.zero_add] at d0 d1 d2 d3 d4
        have hr := Lib.hid hr0
        clear hr0
        cases h1 : (r.d == 3)
        · have h1' : (r.d != 3) = true := by simp only [bne, h1]; rfl
          cases h2 : decide (r.e < t)
          · have h2' : decide (t ≤ r.e) = true := by simp at h2 ⊢; omega
            have hq := Lib.hid (show (!wornP t r) = true by simp only [wornP, h1, h2]; rfl)
            go_wp2_with (at_builtin; refine push_law rfl _ _ _ rfl i0 _ 1 8 Try.underlying41 Hi.out Hz0.out Hz1.out Hz2.out rfl (by decide) _ _ _ rfl (by first | exact hown | exact hown.alloc _) (w0 := w5) (by repeat (with_reducible first | exact hbD | exact Below.refl _ _ | refine bw_later ?_ _ | refine bw_alloc ?_ _ | refine bw_drew ?_ | refine bw_set ?_ (Nat.le_refl _) _ | refine bw_set ?_ ?_ _ | exact Nat.le_refl _ | exact later_size _ _ | refine Nat.le_trans ?_ (later_size _ _) | refine Nat.le_trans ?_ (size_alloc_le _ _) | refine Nat.le_trans ?_ (Nat.le_add_right _ _))) _ (by simp) rfl rfl (by simp [Value.oneCell']) (by omega) (by omega) ?_; intro v1 y1 hown1)
            go_roundw
            case rel => exact ⟨k + 1, (by repeat (with_reducible first | exact hbD | exact Below.refl _ _ | refine bw_later ?_ _ | refine bw_alloc ?_ _ | refine bw_drew ?_ | refine bw_set ?_ (Nat.le_refl _) _ | refine bw_set ?_ ?_ _ | exact Nat.le_refl _ | exact later_size _ _ | refine Nat.le_trans ?_ (later_size _ _) | refine Nat.le_trans ?_ (size_alloc_le _ _) | refine Nat.le_trans ?_ (Nat.le_add_right _ _))), by omega, by go_num, .inr (by rw [pick_yes hr.out hq.out]; simpa using hown1)⟩
            case measure => simp [intOf]; omega
          · have h2' : decide (t ≤ r.e) = false := by simp at h2 ⊢; omega
            have hq := Lib.hid (show (!wornP t r) = false by simp only [wornP, h1, h2]; rfl)
            go_wp2
            go_roundw
            case rel => exact ⟨k + 1, (by repeat (with_reducible first | exact hbD | exact Below.refl _ _ | refine bw_later ?_ _ | refine bw_alloc ?_ _ | refine bw_drew ?_ | refine bw_set ?_ (Nat.le_refl _) _ | refine bw_set ?_ ?_ _ | exact Nat.le_refl _ | exact later_size _ _ | refine Nat.le_trans ?_ (later_size _ _) | refine Nat.le_trans ?_ (size_alloc_le _ _) | refine Nat.le_trans ?_ (Nat.le_add_right _ _))), by omega, by go_num, .inr (by rw [pick_no hr.out hq.out]; exact hown)⟩
            case measure => simp [intOf]; omega
        · have h1' : (r.d != 3) = false := by simp only [bne, h1]; rfl
          have hq := Lib.hid (show (!wornP t r) = false by simp only [wornP, h1]; rfl)
          go_wp2
          go_roundw
          case rel => exact ⟨k + 1, (by repeat (with_reducible first | exact hbD | exact Below.refl _ _ | refine bw_later ?_ _ | refine bw_alloc ?_ _ | refine bw_drew ?_ | refine bw_set ?_ (Nat.le_refl _) _ | refine bw_set ?_ ?_ _ | exact Nat.le_refl _ | exact later_size _ _ | refine Nat.le_trans ?_ (later_size _ _) | refine Nat.le_trans ?_ (size_alloc_le _ _) | refine Nat.le_trans ?_ (Nat.le_add_right _ _))), by omega, by go_num, .inr (by rw [pick_no hr.out hq.out]; exact hown)⟩
          case measure => simp [intOf]; omega
      · obtain rfl : k = n := by omega
        go_wp2
        go_ret2
        rw [hfin.out]
        have e : (wornL t xs).map (fun r => r.a) = pickTo (fun r => !wornP t r) (fun r => r.a) (sortD (fun r => r.e) xs) k := by
          show _ = (((sortD (fun r => r.e) xs).take k).filter _).map _
          rw [List.take_of_length_le (by have := h5l.out; omega)]
          rfl
        rw [e]
        exact IntsB.some_ (own_low hown hge) (by omega) (bw_trans (a := w) (b := (w.alloc (.cells #[] 3))) (by repeat (with_reducible first | exact hbD | exact Below.refl _ _ | refine bw_later ?_ _ | refine bw_alloc ?_ _ | refine bw_drew ?_ | refine bw_set ?_ (Nat.le_refl _) _ | refine bw_set ?_ ?_ _ | exact Nat.le_refl _ | exact later_size _ _ | refine Nat.le_trans ?_ (later_size _ _) | refine Nat.le_trans ?_ (size_alloc_le _ _) | refine Nat.le_trans ?_ (Nat.le_add_right _ _))) (bw_trans hb5 (by repeat (with_reducible first | exact hbD | exact Below.refl _ _ | refine bw_later ?_ _ | refine bw_alloc ?_ _ | refine bw_drew ?_ | refine bw_set ?_ (Nat.le_refl _) _ | refine bw_set ?_ ?_ _ | exact Nat.le_refl _ | exact later_size _ _ | refine Nat.le_trans ?_ (later_size _ _) | refine Nat.le_trans ?_ (size_alloc_le _ _) | refine Nat.le_trans ?_ (Nat.le_add_right _ _)))))
theorem law_WornCabins (A0 : Option Addr) (n0 c0 : Nat) (xs0 : List R5) (a1 : Int) (w : World) (rd0 : AR5 w A0 n0 xs0 ∧ n0 ≤ 9223372036854775807) (_ia1 : I64 a1) : Gv Try.prog 11 #[.slice A0 n0 c0, .int .i64 a1] w (.bool true) := by
  obtain ⟨ha0, hm0⟩ := rd0
  unfold Gv
  by_cases k0 : 1048576 < n0
  · have zz0 : szF n0 ((1048576 : Int)) = -1 := by unfold szF; rw [if_pos (by omega)]
    go_enter Try.func11, Try.ntmps11
    have hw : Below w.heap.size w w := Below.refl _ _
    go_wp2_with fail
    refine Calls.mono (szCabin_any A0 n0 c0 ((1048576 : Int)) hm0 (by omega) (by omega) _) ?_
    rintro _ w1 ⟨rfl, b1⟩
    replace hw := bw_trans hw b1
    have z1 := b1.size
    rw [zz0]
    clear zz0
    go_wp2_with fail
    go_ret
    exact ⟨rfl, hw⟩
  · have hn0 : n0 ≤ 1048576 := by omega
    have zz0 : szF n0 ((1048576 : Int)) = (1048576 : Int) - (n0 : Int) := by unfold szF; rw [if_neg (by omega)]
    go_enter Try.func11, Try.ntmps11
    have hw : Below w.heap.size w w := Below.refl _ _
    go_wp2_with fail
    refine Calls.mono (szCabin_any A0 n0 c0 ((1048576 : Int)) hm0 (by omega) (by omega) _) ?_
    rintro _ w1 ⟨rfl, b1⟩
    replace hw := bw_trans hw b1
    have z1 := b1.size
    rw [zz0]
    clear zz0
    go_wp2_with fail
    refine Calls.mono (toCabinS_any A0 n0 c0 xs0 _ (ha0.below2 hw) hn0) ?_
    rintro _ w2 ⟨g2, rfl, q2, hB2, b2⟩
    replace hw := bw_trans hw b2
    have z2 := b2.size
    have u2 := hB2.lt
    have hO2 := hB2.own q2 u2
    go_wp2_with fail
    refine Calls.mono (s_WornCabins_any g2 0 n0 n0 xs0 a1 _ hB2.reads hn0) ?_
    rintro _ w3 ⟨Ar3, m3, d3, rfl, hO3, l3, b3⟩
    replace hO2 := hO2.below2 b3
    replace hw := bw_trans hw b3
    have z3 := b3.size
    replace hB2 := hB2.below2 b3
    go_wp2_with fail
    refine Calls.mono (toCabinS_any A0 n0 c0 xs0 _ (ha0.below2 hw) hn0) ?_
    rintro _ w4 ⟨g4, rfl, q4, hB4, b4⟩
    replace hO3 := hO3.below2 b4
    replace hw := bw_trans hw b4
    have z4 := b4.size
    have u4 := hB4.lt
    have hO4 := hB4.own q4 u4
    go_wp2_with fail
    refine Calls.mono (i_WornCabins_any g4 0 n0 n0 xs0 a1 _ hB4.reads hn0) ?_
    rintro _ w5 ⟨Ar5, m5, d5, rfl, hO5, l5, b5⟩
    replace hO3 := hO3.below2 b5
    replace hO4 := hO4.below2 b5
    replace hw := bw_trans hw b5
    have z5 := b5.size
    replace hB4 := hB4.below2 b5
    go_wp2_with fail
    refine Calls.mono (eqIntS_any _ _ m5 m3 d5 d3 _ _ _ hO5.reads hO3.reads l5 l3) ?_
    rintro _ w6 ⟨rfl, b6⟩
    replace hO3 := hO3.below2 b6
    replace hO4 := hO4.below2 b6
    replace hO5 := hO5.below2 b6
    replace hw := bw_trans hw b6
    have z6 := b6.size
    go_wp2_with fail
    refine Calls.mono (toCabinS_any A0 n0 c0 xs0 _ (ha0.below2 hw) hn0) ?_
    rintro _ w7 ⟨g7, rfl, q7, hB7, b7⟩
    replace hO3 := hO3.below2 b7
    replace hO4 := hO4.below2 b7
    replace hO5 := hO5.below2 b7
    replace hw := bw_trans hw b7
    have z7 := b7.size
    have u7 := hB7.lt
    have hO7 := hB7.own q7 u7
    go_wp2_with fail
    refine Calls.mono (eqCabinS_any _ _ n0 n0 n0 n0 xs0 xs0 _ hO4.reads hO7.reads hn0 hn0) ?_
    rintro _ w8 ⟨rfl, b8⟩
    replace hO3 := hO3.below2 b8
    replace hO4 := hO4.below2 b8
    replace hO5 := hO5.below2 b8
    replace hO7 := hO7.below2 b8
    replace hw := bw_trans hw b8
    have z8 := b8.size
    go_wp2_with fail
    refine Calls.mono (markCabinS_any _ _ _ n0 n0 1 _ _ hO4 hn0 (by omega) (by omega)) ?_
    rintro _ w9 ⟨rfl, hO4, t9⟩
    replace hO3 := hO3.tch t9 (by omega) (by omega)
    replace hO5 := hO5.tch t9 (by omega) (by omega)
    replace hw := hw.trans (t9.below (B := w.heap.size) (by omega) (by omega))
    have z9 := t9.size
    go_wp2_with fail
    refine Calls.mono (eqIntS_any _ _ m5 m3 d5 d3 _ _ _ hO5.reads hO3.reads l5 l3) ?_
    rintro _ w10 ⟨rfl, b10⟩
    replace hO3 := hO3.below2 b10
    replace hO5 := hO5.below2 b10
    replace hw := bw_trans hw b10
    have z10 := b10.size
    go_wp2_with fail
    refine Calls.mono (markIntS_any _ _ _ m5 d5 1 _ _ hO5 l5 (by omega) (by omega)) ?_
    rintro _ w11 ⟨rfl, hO5, t11⟩
    replace hO3 := hO3.tch t11 (by omega) (by omega)
    replace hw := hw.trans (t11.below (B := w.heap.size) (by omega) (by omega))
    have z11 := t11.size
    go_wp2_with fail
    refine Calls.mono (heldIntS_any _ m5 d5 1 _ hO5.reads l5 (by omega) (by omega)) ?_
    rintro _ w12 ⟨rfl, b12⟩
    replace hO3 := hO3.below2 b12
    replace hO5 := hO5.below2 b12
    replace hw := bw_trans hw b12
    have z12 := b12.size
    go_wp2_with fail
    refine Calls.mono (toCabinS_any A0 n0 c0 xs0 _ (ha0.below2 hw) hn0) ?_
    rintro _ w13 ⟨g13, rfl, q13, hB13, b13⟩
    replace hO3 := hO3.below2 b13
    replace hO5 := hO5.below2 b13
    replace hw := bw_trans hw b13
    have z13 := b13.size
    have u13 := hB13.lt
    have hO13 := hB13.own q13 u13
    go_wp2_with fail
    refine Calls.mono (i_WornCabins_any g13 0 n0 n0 xs0 a1 _ hB13.reads hn0) ?_
    rintro _ w14 ⟨Ar14, m14, d14, rfl, hO14, l14, b14⟩
    replace hO3 := hO3.below2 b14
    replace hO5 := hO5.below2 b14
    replace hO13 := hO13.below2 b14
    replace hw := bw_trans hw b14
    have z14 := b14.size
    replace hB13 := hB13.below2 b14
    go_wp2_with fail
    refine Calls.mono (eqIntS_any _ _ m14 m3 d14 d3 _ _ _ hO14.reads hO3.reads l14 l3) ?_
    rintro _ w15 ⟨rfl, b15⟩
    replace hO3 := hO3.below2 b15
    replace hO5 := hO5.below2 b15
    replace hO14 := hO14.below2 b15
    replace hw := bw_trans hw b15
    have z15 := b15.size
    go_wp2_with fail
    refine Calls.mono (heldIntS_any _ m5 d5 1 _ hO5.reads l5 (by omega) (by omega)) ?_
    rintro _ w16 ⟨rfl, b16⟩
    replace hO3 := hO3.below2 b16
    replace hO5 := hO5.below2 b16
    replace hO14 := hO14.below2 b16
    replace hw := bw_trans hw b16
    have z16 := b16.size
    go_wp2_with fail
    go_ret
    exact ⟨rfl, hw⟩
end Go.Proofs.Ytnemamokjikdeaa
