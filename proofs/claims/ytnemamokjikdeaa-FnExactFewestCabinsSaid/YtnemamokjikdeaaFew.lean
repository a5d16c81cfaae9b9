/- The fewest ready cabins with enough seats. -/
import Derived.Test.YtnemamokjikdeaaWorn
import Derived.Test.YtnemamokjikdeaaPut
import Derived.Test.YtnemamokjikdeaaBoxed
import Derived.Test.YtnemamokjikdeaaShelfSort
namespace Go.Proofs.Ytnemamokjikdeaa
open Go Go.RowKit Go.Sort
def fewP (r : R5) : Bool := r.d != 0
theorem fewP_not : (fun r => !fewP r) = readyB := by
  funext r
  simp [fewP, readyB, bne]
theorem clo_few_any (r : R5) (w : World) : Gv Try.prog 53 (#[r.v] ++ #[]) w (.bool (fewP r)) := by
  show Gv Try.prog 53 #[r.v] w (.bool (fewP r))
  unfold Gv R5.v fewP
  go_enter Try.func53, Try.ntmps53
  go_wp2
  all_goals (go_ret; exact ⟨rfl, (by repeat (with_reducible first | exact hbD | exact Below.refl _ _ | refine bw_later ?_ _ | refine bw_alloc ?_ _ | refine bw_drew ?_ | refine bw_set ?_ (Nat.le_refl _) _ | refine bw_set ?_ ?_ _ | exact Nat.le_refl _ | exact later_size _ _ | refine Nat.le_trans ?_ (later_size _ _) | refine Nat.le_trans ?_ (size_alloc_le _ _) | refine Nat.le_trans ?_ (Nat.le_add_right _ _)))⟩)
theorem OI.holds {w : World} {lo hi g n : Nat} {xs : List Int} (h : OI w lo hi (some ⟨g, 0, none⟩) n xs) : Holds (Value.int .i64) w g 0 xs.toArray := by
  intro j hj
  have hj' : j < xs.length := by simpa using hj
  have h0 : 0 < n := by have := h.1; omega
  obtain ⟨g', e, _, _, _, fz, hc⟩ := h.cells h0
  simp only [Option.some.injEq, Addr.mk.injEq, and_true] at e
  subst e
  refine ⟨?_, fz _⟩
  rw [Nat.zero_add, hc j _ (List.getElem?_eq_getElem hj'), getElem!_pos xs.toArray j (by simpa using hj')]
  simp
theorem sortI_any (g n c : Nat) (l : List Int) (lo hi : Nat) (w : World) (hO : OI w lo hi (some ⟨g, 0, none⟩) n l) (hg : g < w.heap.size) (hn : n ≤ 1000) :
    Calls Try.prog 57 #[.slice (some ⟨g, 0, none⟩) n c] w fun e w' => e = .returned (.tuple #[]) ∧ OI w' g (g + 1) (some ⟨g, 0, none⟩) n (l.mergeSort fun x y => decide (x ≤ y)) ∧ Tch w w' g (g + 1) := by
  have h := Try.slices_Sort_int g 0 c l w hO.holds hg (by have := hO.1; omega)
  rw [hO.1] at h
  refine Calls.mono h fun en w' ⟨he, m, os, hw⟩ => ⟨he, ?_⟩
  subst hw
  have hs : (putRow (Value.int .i64) (Sort.ahead w m) g 0 (l.mergeSort fun x y => decide (x ≤ y)).toArray).heap.size = w.heap.size := by rw [size_putRow]; rfl
  have hlen : (l.mergeSort fun x y => decide (x ≤ y)).length = n := by rw [List.length_mergeSort]; exact hO.1
  refine ⟨⟨hlen, fun h0 => ?_⟩, ⟨rfl, rfl, rfl, by show _ ≤ ((putRow _ _ _ _ _).heap ++ os).size; rw [Array.size_append, hs]; omega, fun j hj hd => ?_⟩⟩
  · obtain ⟨g', t, cur, e, _, _, hgg, hsz, _⟩ := hO.2 h0
    simp only [Option.some.injEq, Addr.mk.injEq, and_true] at e
    subst e
    have h1 : (putRow (Value.int .i64) (Sort.ahead w m) g 0 (l.mergeSort fun x y => decide (x ≤ y)).toArray).heap[g]? = some (.cells (putCells (Value.int .i64) 0 (l.mergeSort fun x y => decide (x ≤ y)).toArray cur) t (0, 0)) := heap_mapBlock (w := Sort.ahead w m) hgg
    have h2 : (grow (putRow (Value.int .i64) (Sort.ahead w m) g 0 (l.mergeSort fun x y => decide (x ≤ y)).toArray) os).heap[g]? = some (.cells (putCells (Value.int .i64) 0 (l.mergeSort fun x y => decide (x ≤ y)).toArray cur) t (0, 0)) := by
      show ((putRow _ _ _ _ _).heap ++ os)[g]? = _
      rw [Array.getElem?_append_left (by rw [hs]; exact hg)]
      exact h1
    have hh : Holds (Value.int .i64) (grow (putRow (Value.int .i64) (Sort.ahead w m) g 0 (l.mergeSort fun x y => decide (x ≤ y)).toArray) os) g 0 (l.mergeSort fun x y => decide (x ≤ y)).toArray :=
      holds_grow _ _ _ _ _ _ (by rw [hs]; exact hg) (holds_putRow _ _ _ _ _ _ (holds_ahead _ _ _ _ _ _ hO.holds) (by simp))
    refine ⟨g, t, _, rfl, Nat.le_refl _, Nat.lt_succ_self _, h2, by simpa [putCells] using hsz, fun i r hi => ?_⟩
    obtain ⟨hil, hie⟩ := List.getElem?_eq_some_iff.1 hi
    have := (hh i (by simpa using hil)).1
    rw [Nat.zero_add, cell_of_row _ g _ _ t (0, 0) h2] at this
    rw [this, getElem!_pos _ i (by simpa using hil)]
    simpa using hie
  · show ((putRow _ _ _ _ _).heap ++ os)[j]? = _
    rw [Array.getElem?_append_left (by rw [hs]; exact hj)]
    exact heap_mapBlock_ne (Sort.ahead w m) _ (by omega)
theorem sort_tail {w w5 Wc w7 : World} {go : Nat} (hb5 : Below w.heap.size w w5) (hbc : Below w5.heap.size w5 Wc) (ht7 : Tch Wc w7 go (go + 1)) (hgb : w5.heap.size ≤ go) (hgo : go < Wc.heap.size) : Below w.heap.size w w7 ∧ go < w7.heap.size ∧ w.heap.size ≤ go :=
  ⟨bw_trans hb5 (hbc.trans (ht7.below hgb hbc.size)), Nat.lt_of_lt_of_le hgo ht7.size, Nat.le_trans hb5.size hgb⟩
theorem own_drew {w : World} {base T size n : Nat} {v : Value} {xs : List Value} (h : w.ownsRow base T size v n xs) : w.drew.ownsRow base T size v n xs := own_of_heap rfl h
theorem fewOut_no {g : List R5 × Int} (h : 0 < g.2) : fewOut g = ([], false) := by simp [fewOut, h]
theorem fewOut_yes {tk : List R5} {p : Int} (h : p ≤ 0) : fewOut (tk, p) = (putAll (tk.map (fun r => r.a)), true) := by
  have : ¬ 0 < p := by omega
  simp [fewOut, this]
set_option maxHeartbeats 4000000 in
theorem i_FewestCabins_any (g off n c : Nat) (xs : List R5) (t : Int) (w : World) (hs : SR5 w g off n xs) (hn : n ≤ 1048576) : GI Try.prog 36 #[.slice (some ⟨g, off, none⟩) n c, .int .i64 t] w (fewF xs t) := by
  unfold GI
  obtain ⟨i0, hi, hz0, hz1, hz2⟩ := info_parts infoInt
  have Hi := Lib.hid hi
  have Hz0 := Lib.hid hz0
  have Hz1 := Lib.hid hz1
  have Hz2 := Lib.hid hz2
  clear hi hz0 hz1 hz2
  have hl := Lib.hid hs.2.1
  have hg := hs.1
  cases h0 : okList isCabin 12 xs
  · have hfin := Lib.hid (show fewF xs t = ([], false) by simp [fewF, h0])
    go_enter Try.func36, Try.ntmps36
    go_wp2_with (first | (go_at_call 20; (first | refine (impl_AreCabins_ok g off n c xs _ (by first | exact hs | exact hs.later _ | exact hs.alloc _ | exact (hs.alloc _).later _ | exact (hs.later _).alloc _ | exact ((hs.later _).alloc _).later _ | exact ((hs.alloc _).later _).alloc _ | exact (hs.alloc _).alloc _ | exact ((hs.alloc _).alloc _).later _ | exact (((hs.alloc _).later _).alloc _).later _) hn).onL ?_ | refine (impl_AreCabins_ok g off n c xs _ (by first | exact hs | exact hs.later _ | exact hs.alloc _ | exact (hs.alloc _).later _ | exact (hs.later _).alloc _ | exact ((hs.later _).alloc _).later _ | exact ((hs.alloc _).later _).alloc _ | exact (hs.alloc _).alloc _ | exact ((hs.alloc _).alloc _).later _ | exact (((hs.alloc _).later _).alloc _).later _) hn).on ?_); intro xq) | (go_at_call 40; (first | refine (within_any _ _ _ _).onL ?_ | refine (within_any _ _ _ _).on ?_); intro xq))
    all_goals (go_ret2; rw [hfin.out]; exact IntsB.none_ (by repeat (with_reducible first | exact hbD | exact Below.refl _ _ | refine bw_later ?_ _ | refine bw_alloc ?_ _ | refine bw_drew ?_ | refine bw_set ?_ (Nat.le_refl _) _ | refine bw_set ?_ ?_ _ | exact Nat.le_refl _ | exact later_size _ _ | refine Nat.le_trans ?_ (later_size _ _) | refine Nat.le_trans ?_ (size_alloc_le _ _) | refine Nat.le_trans ?_ (Nat.le_add_right _ _))))
  cases h1 : inB t 0 200
  · have hfin := Lib.hid (show fewF xs t = ([], false) by simp [fewF, h0, h1])
    go_enter Try.func36, Try.ntmps36
    go_wp2_with (first | (go_at_call 20; (first | refine (impl_AreCabins_ok g off n c xs _ (by first | exact hs | exact hs.later _ | exact hs.alloc _ | exact (hs.alloc _).later _ | exact (hs.later _).alloc _ | exact ((hs.later _).alloc _).later _ | exact ((hs.alloc _).later _).alloc _ | exact (hs.alloc _).alloc _ | exact ((hs.alloc _).alloc _).later _ | exact (((hs.alloc _).later _).alloc _).later _) hn).onL ?_ | refine (impl_AreCabins_ok g off n c xs _ (by first | exact hs | exact hs.later _ | exact hs.alloc _ | exact (hs.alloc _).later _ | exact (hs.later _).alloc _ | exact ((hs.later _).alloc _).later _ | exact ((hs.alloc _).later _).alloc _ | exact (hs.alloc _).alloc _ | exact ((hs.alloc _).alloc _).later _ | exact (((hs.alloc _).later _).alloc _).later _) hn).on ?_); intro xq) | (go_at_call 40; (first | refine (within_any _ _ _ _).onL ?_ | refine (within_any _ _ _ _).on ?_); intro xq))
    all_goals (go_ret2; rw [hfin.out]; exact IntsB.none_ (by repeat (with_reducible first | exact hbD | exact Below.refl _ _ | refine bw_later ?_ _ | refine bw_alloc ?_ _ | refine bw_drew ?_ | refine bw_set ?_ (Nat.le_refl _) _ | refine bw_set ?_ ?_ _ | exact Nat.le_refl _ | exact later_size _ _ | refine Nat.le_trans ?_ (later_size _ _) | refine Nat.le_trans ?_ (size_alloc_le _ _) | refine Nat.le_trans ?_ (Nat.le_add_right _ _))))
  have hfin := Lib.hid (show fewF xs t = fewOut (greedy t (fewR xs)) by simp [fewF, h0, h1])
  obtain ⟨hgood0, h12⟩ := okList_t h0 hs.2.1
  have hgood := Lib.hid hgood0
  clear hgood0
  obtain ⟨t0, t1⟩ := inB_t h1
  go_enter Try.func36, Try.ntmps36
  go_wp2_with (first | (go_at_call 54; refine Calls.mono (sort_few_any g2 m c2 _ w4 hO4 q4 (by omega)) ?_; rintro _ w5 ⟨rfl, hO5, ht5⟩; have q5 : g2 < w5.heap.size := Nat.lt_of_lt_of_le q4 ht5.size; have hb5 : Below w.heap.size w w5 := (hbx.trans (ht4.below q1 hbx.size)).trans (ht5.below q1 (Nat.le_trans hbx.size ht4.size)); have h5 := hO5.sr0 q5; rw [sortD_filter, fewP_not] at h5; have h5l := Lib.hid h5.2.1; clear hO3 hO4 hO5 ht4 ht5 hbx hcap) | (go_at_call 52; refine Calls.mono (del_few_any fewP (fun _ => True) g2 (fun _ _ _ _ => trivial) (fun _ _ _ _ => trivial) (fun r W _ => clo_few_any r W) n c2 xs w3 hO3 q2 hn hcap trivial) ?_; rintro _ w4 ⟨m, rfl, hmn, hO4, ht4, -⟩; have q4 : g2 < w4.heap.size := Nat.lt_of_lt_of_le q2 ht4.size) | (go_at_call 49; refine Calls.mono (cloneR5c_any g off n c xs _ (by first | exact hs | exact hs.later _ | exact hs.alloc _ | exact (hs.alloc _).later _ | exact (hs.later _).alloc _ | exact ((hs.later _).alloc _).later _ | exact ((hs.alloc _).later _).alloc _ | exact (hs.alloc _).alloc _ | exact ((hs.alloc _).alloc _).later _ | exact (((hs.alloc _).later _).alloc _).later _) hn) ?_; rintro _ w3 ⟨g2, c2, rfl, q1, hO3, q2, hcap, b3⟩; have hbx : Below w.heap.size w w3 := bw_trans (a := w) (by repeat (with_reducible first | exact hbD | exact Below.refl _ _ | refine bw_later ?_ _ | refine bw_alloc ?_ _ | refine bw_drew ?_ | refine bw_set ?_ (Nat.le_refl _) _ | refine bw_set ?_ ?_ _ | exact Nat.le_refl _ | exact later_size _ _ | refine Nat.le_trans ?_ (later_size _ _) | refine Nat.le_trans ?_ (size_alloc_le _ _) | refine Nat.le_trans ?_ (Nat.le_add_right _ _))) b3; have q1 : w.heap.size ≤ g2 := Nat.le_trans (Below.size (show Below w.heap.size w _ from (by repeat (with_reducible first | exact hbD | exact Below.refl _ _ | refine bw_later ?_ _ | refine bw_alloc ?_ _ | refine bw_drew ?_ | refine bw_set ?_ (Nat.le_refl _) _ | refine bw_set ?_ ?_ _ | exact Nat.le_refl _ | exact later_size _ _ | refine Nat.le_trans ?_ (later_size _ _) | refine Nat.le_trans ?_ (size_alloc_le _ _) | refine Nat.le_trans ?_ (Nat.le_add_right _ _))))) q1; clear b3) | (go_at_call 20; (first | refine (impl_AreCabins_ok g off n c xs _ (by first | exact hs | exact hs.later _ | exact hs.alloc _ | exact (hs.alloc _).later _ | exact (hs.later _).alloc _ | exact ((hs.later _).alloc _).later _ | exact ((hs.alloc _).later _).alloc _ | exact (hs.alloc _).alloc _ | exact ((hs.alloc _).alloc _).later _ | exact (((hs.alloc _).later _).alloc _).later _) hn).onL ?_ | refine (impl_AreCabins_ok g off n c xs _ (by first | exact hs | exact hs.later _ | exact hs.alloc _ | exact (hs.alloc _).later _ | exact (hs.later _).alloc _ | exact ((hs.later _).alloc _).later _ | exact ((hs.alloc _).later _).alloc _ | exact (hs.alloc _).alloc _ | exact ((hs.alloc _).alloc _).later _ | exact (((hs.alloc _).later _).alloc _).later _) hn).on ?_); intro xq) | (go_at_call 40; (first | refine (within_any _ _ _ _).onL ?_ | refine (within_any _ _ _ _).on ?_); intro xq))
  have hge : w.heap.size ≤ w5.heap.size := hb5.size
  have hR5 : ∀ q ∈ fewR xs, 1 ≤ q.b ∧ q.b ≤ 16 := fun q hq => by
    have hm : q ∈ xs := (sortD_mem (f := fun r => r.b) xs).1 (List.mem_filter.1 hq).1
    obtain ⟨j, hj, e⟩ := List.getElem_of_mem hm
    exact (cabin_bd (good_each hgood.out (show xs[j]? = some q by rw [← e]; exact List.getElem?_eq_getElem hj))).2.1
  have HR5 := Lib.hid hR5
  clear hR5
  go_loopw [7, 8, 27] (fun o s' i wr => ∃ (k go cap : Nat) (s : Int), Below w5.heap.size w5 wr ∧ k ≤ m ∧ i = .int .i64 (k : Int) ∧ s' = .int .i64 s ∧ 0 ≤ s ∧ s ≤ 16 * (k : Int) ∧ o = .slice (some ⟨go, 0, none⟩) k cap ∧ wr.ownsRow w5.heap.size 3 1 o k ((((fewR xs).take k).map (fun r => r.a)).map (Value.int .i64)) ∧ w5.heap.size ≤ go ∧ go < wr.heap.size ∧ Hid (GAt t (fewR xs) ((fewR xs).take k) (t - s) ((fewR xs).drop k))) (fun _ _ i _ => m - (intOf i).toNat)
  case atStart => exact ⟨0, w5.heap.size, 0, 0, (by repeat (with_reducible first | exact hbD | exact Below.refl _ _ | refine bw_later ?_ _ | refine bw_alloc ?_ _ | refine bw_drew ?_ | refine bw_set ?_ (Nat.le_refl _) _ | refine bw_set ?_ ?_ _ | exact Nat.le_refl _ | exact later_size _ _ | refine Nat.le_trans ?_ (later_size _ _) | refine Nat.le_trans ?_ (size_alloc_le _ _) | refine Nat.le_trans ?_ (Nat.le_add_right _ _))), by omega, rfl, rfl, by omega, by omega, rfl, World.ownsRow_made w5 #[] 0 (Nat.le_refl _) (by decide) rfl, Nat.le_refl _, by simp, Lib.hid (by rw [Int.sub_zero]; exact GAt.start _ _)⟩
  case round =>
    obtain ⟨k, go, cap, s, hbw, hk, rfl, rfl, s0, s1, rfl, hown, hgb, hgo, hG⟩ := hrel
    obtain ⟨y, rfl⟩ := exists_later hbw
    clear hbw
    have hgy := lt_later _ y g2 q5
    by_cases hlt : k < m
    · obtain ⟨r, hr0⟩ := h5.at_ hlt
      obtain ⟨d0, d1, d2, d3, d4⟩ := h5.2.2 k r hr0
      simp only [Nat.zero_add] at d0 d1 d2 d3 d4
      obtain ⟨u1, u2⟩ := HR5.out r (List.mem_of_getElem? hr0)
      have hr := Lib.hid hr0
      clear hr0
      by_cases hge2 : t ≤ s
      · have fewR_at := Lib.hid (hG.out.stop (.inl (by omega)))
        obtain ⟨A', c', e', hO'⟩ := OI_of_own hown
        simp only [Value.slice.injEq, true_and] at e'
        obtain ⟨rfl, rfl⟩ := e'
        have hOO := Lib.hid hO'
        have hgt2 : ¬ s < t := by omega
        clear hO'
        go_wp2_with (go_at_call 57; refine Calls.mono (sortI_any go k cap _ _ _ _ (hOO.out.below2 (by repeat (with_reducible first | exact Below.refl _ _ | refine bw_later ?_ _ | refine bw_alloc ?_ _ | refine bw_drew ?_))) (Nat.lt_of_lt_of_le hgo (Below.size (show Below (later w5 y).heap.size (later w5 y) _ from (by repeat (with_reducible first | exact Below.refl _ _ | refine bw_later ?_ _ | refine bw_alloc ?_ _ | refine bw_drew ?_))))) (by omega)) ?_; rintro _ w7 ⟨rfl, hO7, ht7⟩; have hT := sort_tail hb5 (by repeat (with_reducible first | exact Below.refl _ _ | refine bw_later ?_ _ | refine bw_alloc ?_ _ | refine bw_drew ?_)) ht7 hgb (Nat.lt_of_lt_of_le hgo (Below.size (show Below (later w5 y).heap.size (later w5 y) _ from (by repeat (with_reducible first | exact Below.refl _ _ | refine bw_later ?_ _ | refine bw_alloc ?_ _ | refine bw_drew ?_))))))
        go_ret2
        rw [hfin.out, fewR_at.out, fewOut_yes (by omega)]
        have hnd : (((fewR xs).take k).map (fun r => r.a)).Nodup := (fewR_nodup hgood.out).sublist (List.Sublist.map _ (List.take_sublist _ _))
        rw [merge_is _ hnd] at hO7
        exact ⟨_, k, cap, rfl, hO7.wide hT.2.2 hT.2.1, by omega, hT.1⟩
      · have hst := Lib.hid (hG.out)
        go_wp2
        refine wp_region_C (Cw w5 (later w5 y).heap.size #[.int .i64 r.a, .int .i64 r.b, .int .i64 r.c, .int .i64 r.d, .int .i64 r.e] 25) (by kernel_rfl) ?_
        have hcw : Cw w5 (later w5 y).heap.size #[.int .i64 r.a, .int .i64 r.b, .int .i64 r.c, .int .i64 r.d, .int .i64 r.e] 25 ((later w5 y).alloc (.cells #[.int .i64 r.a, .int .i64 r.b, .int .i64 r.c, .int .i64 r.d, .int .i64 r.e] 25)) := Cw.new (later_below _ _) _ _
        ((refine step_readC (i := 0) (by kernel_rfl) (by kernel_rfl) rfl (by repeat (with_reducible first | assumption | refine Cw.later ?_ _ | refine Cw.alloc ?_ _ | refine Cw.drew ?_ | refine Cw.set ?_ ?_ ?_ _)) rfl (fun K hK => ?_); apply Exists.intro; refine ⟨fun wq hq => ?_, ?_⟩; focus (have hq0 := hq.cell 0; have hq1 := hq.cell 1; have hq2 := hq.cell 2; have hq3 := hq.cell 3; have hq4 := hq.cell 4; go_simp; (try go_bits); (try go_simp); (try rfl))); (go_simp; (try go_bits); refine hK _ ?_; clear hK K); (refine step_readC (i := 1) (by kernel_rfl) (by kernel_rfl) rfl (by repeat (with_reducible first | assumption | refine Cw.later ?_ _ | refine Cw.alloc ?_ _ | refine Cw.drew ?_ | refine Cw.set ?_ ?_ ?_ _)) rfl (fun K hK => ?_); apply Exists.intro; refine ⟨fun wq hq => ?_, ?_⟩; focus (have hq0 := hq.cell 0; have hq1 := hq.cell 1; have hq2 := hq.cell 2; have hq3 := hq.cell 3; have hq4 := hq.cell 4; go_simp; (try go_bits); (try go_simp); (try rfl))); (go_simp; (try go_bits); refine hK _ ?_; clear hK K); (refine step_readC (i := 2) (by kernel_rfl) (by kernel_rfl) rfl (by repeat (with_reducible first | assumption | refine Cw.later ?_ _ | refine Cw.alloc ?_ _ | refine Cw.drew ?_ | refine Cw.set ?_ ?_ ?_ _)) rfl (fun K hK => ?_); apply Exists.intro; refine ⟨fun wq hq => ?_, ?_⟩; focus (have hq0 := hq.cell 0; have hq1 := hq.cell 1; have hq2 := hq.cell 2; have hq3 := hq.cell 3; have hq4 := hq.cell 4; go_simp; (try go_bits); (try go_simp); (try rfl))); (go_simp; (try go_bits); refine hK _ ?_; clear hK K); (refine step_readC (i := 5) (by kernel_rfl) (by kernel_rfl) rfl (by repeat (with_reducible first | assumption | refine Cw.later ?_ _ | refine Cw.alloc ?_ _ | refine Cw.drew ?_ | refine Cw.set ?_ ?_ ?_ _)) rfl (fun K hK => ?_); apply Exists.intro; refine ⟨fun wq hq => ?_, ?_⟩; focus (have hq0 := hq.cell 0; have hq1 := hq.cell 1; have hq2 := hq.cell 2; have hq3 := hq.cell 3; have hq4 := hq.cell 4; go_simp; (try go_bits); (try go_simp); (try rfl))); (go_simp; (try go_bits); refine hK _ ?_; clear hK K); (refine step_readC (i := 6) (by kernel_rfl) (by kernel_rfl) rfl (by repeat (with_reducible first | assumption | refine Cw.later ?_ _ | refine Cw.alloc ?_ _ | refine Cw.drew ?_ | refine Cw.set ?_ ?_ ?_ _)) rfl (fun K hK => ?_); apply Exists.intro; refine ⟨fun wq hq => ?_, ?_⟩; focus (have hq0 := hq.cell 0; have hq1 := hq.cell 1; have hq2 := hq.cell 2; have hq3 := hq.cell 3; have hq4 := hq.cell 4; go_simp; (try go_bits); (try go_simp); (try rfl))); (go_simp; (try go_bits); refine hK _ ?_; clear hK K); (refine step_readC (i := 7) (by kernel_rfl) (by kernel_rfl) rfl (by repeat (with_reducible first | assumption | refine Cw.later ?_ _ | refine Cw.alloc ?_ _ | refine Cw.drew ?_ | refine Cw.set ?_ ?_ ?_ _)) rfl (fun K hK => ?_); apply Exists.intro; refine ⟨fun wq hq => ?_, ?_⟩; focus (have hq0 := hq.cell 0; have hq1 := hq.cell 1; have hq2 := hq.cell 2; have hq3 := hq.cell 3; have hq4 := hq.cell 4; go_simp; (try go_bits); (try go_simp); (try rfl))); (go_simp; (try go_bits); refine hK _ ?_; clear hK K); (refine step_readC (i := 8) (by kernel_rfl) (by kernel_rfl) rfl (by repeat (with_reducible first | assumption | refine Cw.later ?_ _ | refine Cw.alloc ?_ _ | refine Cw.drew ?_ | refine Cw.set ?_ ?_ ?_ _)) rfl (fun K hK => ?_); apply Exists.intro; refine ⟨fun wq hq => ?_, ?_⟩; focus (have hq0 := hq.cell 0; have hq1 := hq.cell 1; have hq2 := hq.cell 2; have hq3 := hq.cell 3; have hq4 := hq.cell 4; go_simp; (try go_bits); (try go_simp); (try rfl))); (go_simp; (try go_bits); refine hK _ ?_; clear hK K))
        (refine step_one (i := 3) (by kernel_rfl) rfl (by repeat (with_reducible first | assumption | refine Cw.later ?_ _ | refine Cw.alloc ?_ _ | refine Cw.drew ?_ | refine Cw.set ?_ ?_ ?_ _)) (fun K hK => ?_); go_wp2; (try refine hK _ _ ?_); (try clear hK K))
        (refine step_one (i := 4) (by kernel_rfl) rfl (by repeat (with_reducible first | assumption | refine Cw.later ?_ _ | refine Cw.alloc ?_ _ | refine Cw.drew ?_ | refine Cw.set ?_ ?_ ?_ _)) (fun K hK => ?_); go_wp2_with ((at_builtin; refine push_keep rfl _ _ _ rfl i0 _ 1 8 Try.underlying41 Hi.out Hz0.out Hz1.out Hz2.out rfl (by decide) _ _ _ rfl (own_drew (hown.alloc _)) (W := ((later w5 y).alloc (.cells #[.int .i64 r.a, .int .i64 r.b, .int .i64 r.c, .int .i64 r.d, .int .i64 r.e] 25)).drew) (cells := #[.int .i64 r.a]) (e := 3) (w0 := w5) (by repeat (with_reducible first | exact hbD | exact Below.refl _ _ | refine bw_later ?_ _ | refine bw_alloc ?_ _ | refine bw_drew ?_ | refine bw_set ?_ (Nat.le_refl _) _ | refine bw_set ?_ ?_ _ | exact Nat.le_refl _ | exact later_size _ _ | refine Nat.le_trans ?_ (later_size _ _) | refine Nat.le_trans ?_ (size_alloc_le _ _) | refine Nat.le_trans ?_ (Nat.le_add_right _ _))) ((later w5 y).heap.size + 1) (by show _ = (Array.push _ _).size; rw [Array.size_push]) rfl rfl (by simp [Value.oneCell']) (by omega) (by omega) ?_; intro v1 y1 hown1 hk1; have hcw1 : Cw w5 (later w5 y).heap.size #[.int .i64 r.a, .int .i64 r.b, .int .i64 r.c, .int .i64 r.d, .int .i64 r.e] 25 (later w5 y1) := ⟨later_below _ _, (hk1 _ (by first | exact hcw.lt | exact hcw.drew.lt) (own_ne hown (Nat.le_refl _))).trans (by first | exact hcw.blk | exact hcw.drew.blk)⟩)); (try refine hK _ _ ?_); (try clear hK K))
        (refine step_one (i := 9) (by kernel_rfl) rfl (by repeat (with_reducible first | assumption | refine Cw.later ?_ _ | refine Cw.alloc ?_ _ | refine Cw.drew ?_ | refine Cw.set ?_ ?_ ?_ _)) (fun K hK => ?_); go_wp2; (try refine hK _ _ ?_); (try clear hK K))
        (refine step_one (i := 10) (by kernel_rfl) rfl (by repeat (with_reducible first | assumption | refine Cw.later ?_ _ | refine Cw.alloc ?_ _ | refine Cw.drew ?_ | refine Cw.set ?_ ?_ ?_ _)) (fun K hK => ?_); go_wp2; (try refine hK _ _ ?_); (try clear hK K))
        (refine step_end (by kernel_rfl) (by repeat (with_reducible first | assumption | refine Cw.later ?_ _ | refine Cw.alloc ?_ _ | refine Cw.drew ?_ | refine Cw.set ?_ ?_ ?_ _)) ?_)
        have hd : (fewR xs).drop k = r :: (fewR xs).drop (k + 1) := by
          obtain ⟨hil, hie⟩ := List.getElem?_eq_some_iff.1 (show (fewR xs)[k]? = some r from hr.out)
          rw [List.drop_eq_getElem_cons hil, hie]
        have hG2 := hst.out
        rw [hd] at hG2
        have hG3 := Lib.hid (hG2.step (by omega))
        have htk : (fewR xs).take (k + 1) = (fewR xs).take k ++ [r] := by simp [List.take_add_one, show (fewR xs)[k]? = some r from hr.out]
        have hown2 : (later w5 y1).ownsRow w5.heap.size 3 1 v1 (k + 1) ((((fewR xs).take (k + 1)).map (fun r => r.a)).map (Value.int .i64)) := by
          rw [htk, List.map_append, List.map_append]
          exact hown1
        obtain ⟨go2, cap2, rfl, g1', g2'⟩ := own_slice hown2 (by omega)
        have HOWN := Lib.hid hown2
        have HTK := Lib.hid htk
        clear hown1 hown2 hk1 hG2 hd htk hcw hcw1
        go_wp2
        go_roundw
        case rel => exact ⟨k + 1, go2, cap2, s + r.b, (by repeat (with_reducible first | exact hbD | exact Below.refl _ _ | refine bw_later ?_ _ | refine bw_alloc ?_ _ | refine bw_drew ?_ | refine bw_set ?_ (Nat.le_refl _) _ | refine bw_set ?_ ?_ _ | exact Nat.le_refl _ | exact later_size _ _ | refine Nat.le_trans ?_ (later_size _ _) | refine Nat.le_trans ?_ (size_alloc_le _ _) | refine Nat.le_trans ?_ (Nat.le_add_right _ _))), by omega, by go_num, rfl, by omega, by omega, rfl, HOWN.out, g1', g2', Lib.hid (by rw [HTK.out, show t - (s + r.b) = t - s - r.b by omega]; exact hG3.out)⟩
        case measure => simp [intOf]; omega
    · obtain rfl : k = m := by omega
      have fewR_at := Lib.hid (hG.out.stop (.inr (List.drop_eq_nil_of_le (by have := h5l.out; show ((sortD (fun r => r.b) xs).filter readyB).length ≤ k; omega))))
      by_cases hge2 : s < t
      · go_wp2
        go_ret2
        rw [hfin.out, fewR_at.out, fewOut_no (by show 0 < t - s; omega)]
        exact IntsB.none_ (bw_trans (a := w) (b := w5) hb5 (by repeat (with_reducible first | exact hbD | exact Below.refl _ _ | refine bw_later ?_ _ | refine bw_alloc ?_ _ | refine bw_drew ?_ | refine bw_set ?_ (Nat.le_refl _) _ | refine bw_set ?_ ?_ _ | exact Nat.le_refl _ | exact later_size _ _ | refine Nat.le_trans ?_ (later_size _ _) | refine Nat.le_trans ?_ (size_alloc_le _ _) | refine Nat.le_trans ?_ (Nat.le_add_right _ _))))
      · obtain ⟨A', c', e', hO'⟩ := OI_of_own hown
        simp only [Value.slice.injEq, true_and] at e'
        obtain ⟨rfl, rfl⟩ := e'
        have hOO := Lib.hid hO'
        clear hO'
        go_wp2_with (go_at_call 57; refine Calls.mono (sortI_any go k cap _ _ _ _ (hOO.out.below2 (by repeat (with_reducible first | exact Below.refl _ _ | refine bw_later ?_ _ | refine bw_alloc ?_ _ | refine bw_drew ?_))) (Nat.lt_of_lt_of_le hgo (Below.size (show Below (later w5 y).heap.size (later w5 y) _ from (by repeat (with_reducible first | exact Below.refl _ _ | refine bw_later ?_ _ | refine bw_alloc ?_ _ | refine bw_drew ?_))))) (by omega)) ?_; rintro _ w7 ⟨rfl, hO7, ht7⟩; have hT := sort_tail hb5 (by repeat (with_reducible first | exact Below.refl _ _ | refine bw_later ?_ _ | refine bw_alloc ?_ _ | refine bw_drew ?_)) ht7 hgb (Nat.lt_of_lt_of_le hgo (Below.size (show Below (later w5 y).heap.size (later w5 y) _ from (by repeat (with_reducible first | exact Below.refl _ _ | refine bw_later ?_ _ | refine bw_alloc ?_ _ | refine bw_drew ?_))))))
        go_ret2
        rw [hfin.out, fewR_at.out, fewOut_yes (by omega)]
        have hnd : (((fewR xs).take k).map (fun r => r.a)).Nodup := (fewR_nodup hgood.out).sublist (List.Sublist.map _ (List.take_sublist _ _))
        rw [merge_is _ hnd] at hO7
        exact ⟨_, k, cap, rfl, hO7.wide hT.2.2 hT.2.1, by omega, hT.1⟩
set_option maxHeartbeats 4000000 in
theorem s_FewestCabins_any (g off n c : Nat) (xs : List R5) (t : Int) (w : World) (hs : SR5 w g off n xs) (hn : n ≤ 1048576) : GI Try.prog 35 #[.slice (some ⟨g, off, none⟩) n c, .int .i64 t] w (fewF xs t) := by
  unfold GI
  obtain ⟨i0, hi, hz0, hz1, hz2⟩ := info_parts infoInt
  have Hi := Lib.hid hi
  have Hz0 := Lib.hid hz0
  have Hz1 := Lib.hid hz1
  have Hz2 := Lib.hid hz2
  clear hi hz0 hz1 hz2
  have hl := Lib.hid hs.2.1
  have hg := hs.1
  cases h0 : okList isCabin 12 xs
  · have hfin := Lib.hid (show fewF xs t = ([], false) by simp [fewF, h0])
    go_enter Try.func35, Try.ntmps35
    go_wp2_with (first | (go_at_call 42; (first | refine (l5Good_ok g off n c xs _ (by first | exact hs | exact hs.later _ | exact hs.alloc _ | exact (hs.alloc _).later _ | exact (hs.later _).alloc _ | exact ((hs.later _).alloc _).later _ | exact ((hs.alloc _).later _).alloc _ | exact (hs.alloc _).alloc _ | exact ((hs.alloc _).alloc _).later _ | exact (((hs.alloc _).later _).alloc _).later _) hn).onL ?_ | refine (l5Good_ok g off n c xs _ (by first | exact hs | exact hs.later _ | exact hs.alloc _ | exact (hs.alloc _).later _ | exact (hs.later _).alloc _ | exact ((hs.later _).alloc _).later _ | exact ((hs.alloc _).later _).alloc _ | exact (hs.alloc _).alloc _ | exact ((hs.alloc _).alloc _).later _ | exact (((hs.alloc _).later _).alloc _).later _) hn).on ?_); intro xq) | (go_at_call 41; (first | refine (in_any _ _ _ _).onL ?_ | refine (in_any _ _ _ _).on ?_); intro xq))
    all_goals (go_ret2; rw [hfin.out]; exact IntsB.none_ (by repeat (with_reducible first | exact hbD | exact Below.refl _ _ | refine bw_later ?_ _ | refine bw_alloc ?_ _ | refine bw_drew ?_ | refine bw_set ?_ (Nat.le_refl _) _ | refine bw_set ?_ ?_ _ | exact Nat.le_refl _ | exact later_size _ _ | refine Nat.le_trans ?_ (later_size _ _) | refine Nat.le_trans ?_ (size_alloc_le _ _) | refine Nat.le_trans ?_ (Nat.le_add_right _ _))))
  cases h1 : inB t 0 200
  · have hfin := Lib.hid (show fewF xs t = ([], false) by simp [fewF, h0, h1])
    go_enter Try.func35, Try.ntmps35
    go_wp2_with (first | (go_at_call 42; (first | refine (l5Good_ok g off n c xs _ (by first | exact hs | exact hs.later _ | exact hs.alloc _ | exact (hs.alloc _).later _ | exact (hs.later _).alloc _ | exact ((hs.later _).alloc _).later _ | exact ((hs.alloc _).later _).alloc _ | exact (hs.alloc _).alloc _ | exact ((hs.alloc _).alloc _).later _ | exact (((hs.alloc _).later _).alloc _).later _) hn).onL ?_ | refine (l5Good_ok g off n c xs _ (by first | exact hs | exact hs.later _ | exact hs.alloc _ | exact (hs.alloc _).later _ | exact (hs.later _).alloc _ | exact ((hs.later _).alloc _).later _ | exact ((hs.alloc _).later _).alloc _ | exact (hs.alloc _).alloc _ | exact ((hs.alloc _).alloc _).later _ | exact (((hs.alloc _).later _).alloc _).later _) hn).on ?_); intro xq) | (go_at_call 41; (first | refine (in_any _ _ _ _).onL ?_ | refine (in_any _ _ _ _).on ?_); intro xq))
    all_goals (go_ret2; rw [hfin.out]; exact IntsB.none_ (by repeat (with_reducible first | exact hbD | exact Below.refl _ _ | refine bw_later ?_ _ | refine bw_alloc ?_ _ | refine bw_drew ?_ | refine bw_set ?_ (Nat.le_refl _) _ | refine bw_set ?_ ?_ _ | exact Nat.le_refl _ | exact later_size _ _ | refine Nat.le_trans ?_ (later_size _ _) | refine Nat.le_trans ?_ (size_alloc_le _ _) | refine Nat.le_trans ?_ (Nat.le_add_right _ _))))
  have hfin := Lib.hid (show fewF xs t = fewOut (greedy t (fewR xs)) by simp [fewF, h0, h1])
  obtain ⟨hgood0, h12⟩ := okList_t h0 hs.2.1
  have hgood := Lib.hid hgood0
  clear hgood0
  obtain ⟨t0, t1⟩ := inB_t h1
  go_enter Try.func35, Try.ntmps35
  go_wp2_with (first | (go_at_call 50; refine Calls.mono (order_few_any g off n c xs _ (by first | exact hs | exact hs.later _ | exact hs.alloc _ | exact (hs.alloc _).later _ | exact (hs.later _).alloc _ | exact ((hs.later _).alloc _).later _ | exact ((hs.alloc _).later _).alloc _ | exact (hs.alloc _).alloc _ | exact ((hs.alloc _).alloc _).later _ | exact (((hs.alloc _).later _).alloc _).later _) hn) ?_; rintro _ w5 ⟨go5, cap5, rfl, hO5, q5, hb5'⟩; have hb5 : Below (w.alloc (.cells #[] 3)).heap.size (w.alloc (.cells #[] 3)) w5 := bw_trans (a := (w.alloc (.cells #[] 3))) (by repeat (with_reducible first | exact hbD | exact Below.refl _ _ | refine bw_later ?_ _ | refine bw_alloc ?_ _ | refine bw_drew ?_ | refine bw_set ?_ (Nat.le_refl _) _ | refine bw_set ?_ ?_ _ | exact Nat.le_refl _ | exact later_size _ _ | refine Nat.le_trans ?_ (later_size _ _) | refine Nat.le_trans ?_ (size_alloc_le _ _) | refine Nat.le_trans ?_ (Nat.le_add_right _ _))) hb5'; clear hb5') | (go_at_call 42; (first | refine (l5Good_ok g off n c xs _ (by first | exact hs | exact hs.later _ | exact hs.alloc _ | exact (hs.alloc _).later _ | exact (hs.later _).alloc _ | exact ((hs.later _).alloc _).later _ | exact ((hs.alloc _).later _).alloc _ | exact (hs.alloc _).alloc _ | exact ((hs.alloc _).alloc _).later _ | exact (((hs.alloc _).later _).alloc _).later _) hn).onL ?_ | refine (l5Good_ok g off n c xs _ (by first | exact hs | exact hs.later _ | exact hs.alloc _ | exact (hs.alloc _).later _ | exact (hs.later _).alloc _ | exact ((hs.later _).alloc _).later _ | exact ((hs.alloc _).later _).alloc _ | exact (hs.alloc _).alloc _ | exact ((hs.alloc _).alloc _).later _ | exact (((hs.alloc _).later _).alloc _).later _) hn).on ?_); intro xq) | (go_at_call 41; (first | refine (in_any _ _ _ _).onL ?_ | refine (in_any _ _ _ _).on ?_); intro xq))
  have hge : w.heap.size ≤ w5.heap.size := Nat.le_trans (by simp) hb5.size
  have h5 := hO5.sr0 q5
  have h5l := Lib.hid h5.2.1
  have hR5 : ∀ q ∈ sortD (fun r => r.b) xs, 1 ≤ q.b ∧ q.b ≤ 16 := fun q hq => by
    have hm : q ∈ xs := (sortD_mem (f := fun r => r.b) xs).1 hq
    obtain ⟨j, hj, e⟩ := List.getElem_of_mem hm
    exact (cabin_bd (good_each hgood.out (show xs[j]? = some q by rw [← e]; exact List.getElem?_eq_getElem hj))).2.1
  have HR5 := Lib.hid hR5
  clear hR5 hO5
  go_loopw [1, 6, 8] (fun p' o i' wr => ∃ (i go cap : Nat) (p : Int) (tk : List R5), Below w5.heap.size w5 wr ∧ i ≤ n ∧ i' = .int .i64 (i : Int) ∧ p' = .int .i64 p ∧ -16 ≤ p ∧ p ≤ 200 ∧ o = .slice (some ⟨go, 0, none⟩) tk.length cap ∧ OI wr w.heap.size wr.heap.size (some ⟨go, 0, none⟩) tk.length (putAll (tk.map (fun r => r.a))) ∧ tk.length ≤ cap ∧ tk.length ≤ i ∧ go < wr.heap.size ∧ Hid (GAt t (fewR xs) tk p (((sortD (fun r => r.b) xs).drop i).filter readyB))) (fun _ _ i' _ => n - (intOf i').toNat)
  case atStart => exact ⟨0, w.heap.size, 0, t, [], (by repeat (with_reducible first | exact hbD | exact Below.refl _ _ | refine bw_later ?_ _ | refine bw_alloc ?_ _ | refine bw_drew ?_ | refine bw_set ?_ (Nat.le_refl _) _ | refine bw_set ?_ ?_ _ | exact Nat.le_refl _ | exact later_size _ _ | refine Nat.le_trans ?_ (later_size _ _) | refine Nat.le_trans ?_ (size_alloc_le _ _) | refine Nat.le_trans ?_ (Nat.le_add_right _ _))), by omega, rfl, rfl, by omega, by omega, rfl, ⟨rfl, fun h => absurd h (by simp)⟩, by simp, by simp, Nat.lt_of_lt_of_le (by simp) hb5.size, Lib.hid (GAt.start _ _)⟩
  case round =>
    obtain ⟨i, go, cap, p, tk, hbw, hi, rfl, rfl, p0, p1, rfl, hO, hcap, htki, hgo, hG⟩ := hrel
    obtain ⟨y, rfl⟩ := exists_later hbw
    clear hbw
    have hgy := lt_later _ y go5 q5
    by_cases hlt : i < n
    · by_cases hp : p ≤ 0
      · have hstop := Lib.hid (hG.out.stop (.inl hp))
        go_wp2
        go_ret2
        rw [hfin.out, hstop.out, fewOut_yes (by omega)]
        exact ⟨_, tk.length, cap, rfl, hO, by omega, (bw_trans (a := w) (b := (w.alloc (.cells #[] 3))) (by repeat (with_reducible first | exact hbD | exact Below.refl _ _ | refine bw_later ?_ _ | refine bw_alloc ?_ _ | refine bw_drew ?_ | refine bw_set ?_ (Nat.le_refl _) _ | refine bw_set ?_ ?_ _ | exact Nat.le_refl _ | exact later_size _ _ | refine Nat.le_trans ?_ (later_size _ _) | refine Nat.le_trans ?_ (size_alloc_le _ _) | refine Nat.le_trans ?_ (Nat.le_add_right _ _))) (bw_trans hb5 (by repeat (with_reducible first | exact hbD | exact Below.refl _ _ | refine bw_later ?_ _ | refine bw_alloc ?_ _ | refine bw_drew ?_ | refine bw_set ?_ (Nat.le_refl _) _ | refine bw_set ?_ ?_ _ | exact Nat.le_refl _ | exact later_size _ _ | refine Nat.le_trans ?_ (later_size _ _) | refine Nat.le_trans ?_ (size_alloc_le _ _) | refine Nat.le_trans ?_ (Nat.le_add_right _ _)))))⟩
      · obtain ⟨r, hr0⟩ := h5.at_ hlt
        obtain ⟨d0, d1, d2, d3, d4⟩ := h5.2.2 i r hr0
        simp only [Nat.zero_add] at d0 d1 d2 d3 d4
        obtain ⟨u1, u2⟩ := HR5.out r (List.mem_of_getElem? hr0)
        have hd : (sortD (fun r => r.b) xs).drop i = r :: (sortD (fun r => r.b) xs).drop (i + 1) := by
          obtain ⟨hil, hie⟩ := List.getElem?_eq_some_iff.1 hr0
          rw [List.drop_eq_getElem_cons hil, hie]
        clear hr0
        cases h1 : (r.d == 0)
        · have hG3 : Hid (GAt t (fewR xs) tk p (((sortD (fun r => r.b) xs).drop (i + 1)).filter readyB)) := Lib.hid (by
            have h := hG.out
            rw [hd, List.filter_cons_of_neg (by simp [readyB]; simpa using h1)] at h
            exact h)
          clear hd hG
          go_wp2
          go_roundw
          case rel => exact ⟨i + 1, go, cap, p, tk, (by repeat (with_reducible first | exact hbD | exact Below.refl _ _ | refine bw_later ?_ _ | refine bw_alloc ?_ _ | refine bw_drew ?_ | refine bw_set ?_ (Nat.le_refl _) _ | refine bw_set ?_ ?_ _ | exact Nat.le_refl _ | exact later_size _ _ | refine Nat.le_trans ?_ (later_size _ _) | refine Nat.le_trans ?_ (size_alloc_le _ _) | refine Nat.le_trans ?_ (Nat.le_add_right _ _))), by omega, by go_num, rfl, by omega, by omega, rfl, hO, hcap, by omega, hgo, hG3⟩
          case measure => simp [intOf]; omega
        · have hG2 : GAt t (fewR xs) tk p (r :: ((sortD (fun r => r.b) xs).drop (i + 1)).filter readyB) := by
            have h := hG.out
            rw [hd, List.filter_cons_of_pos (by simp [readyB]; simpa using h1)] at h
            exact h
          have hG3 := Lib.hid (hG2.step (by omega))
          have hz : Hid (r.a ∉ putAll (tk.map (fun r => r.a))) := Lib.hid (fun hm => by
            have hnd := fewR_nodup hgood.out
            rw [hG2.2, List.map_append, List.nodup_append] at hnd
            exact hnd.2.2 r.a ((putAll_perm _).mem_iff.1 hm) r.a (by simp) rfl)
          have hsn : Hid (putL r.a (putAll (tk.map (fun r => r.a))) = putAll ((tk ++ [r]).map (fun r => r.a))) := Lib.hid (by rw [List.map_append]; exact (putAll_snoc _ _).symm)
          have hln : Hid ((tk ++ [r]).length = tk.length + 1) := Lib.hid (by simp)
          clear hd hG hG2
          go_wp2_with (go_at_call 51; refine Calls.mono (l1Put_any go tk.length cap _ r.a _ (hO.si hgo) (by omega) hcap hz.out) ?_; rintro _ w7 ⟨go7, cap7, rfl, hO7, hcap7, hgo7, hb7⟩; obtain ⟨y7, rfl⟩ := exists_later (bw_trans (a := w5) (by repeat (with_reducible first | exact hbD | exact Below.refl _ _ | refine bw_later ?_ _ | refine bw_alloc ?_ _ | refine bw_drew ?_ | refine bw_set ?_ (Nat.le_refl _) _ | refine bw_set ?_ ?_ _ | exact Nat.le_refl _ | exact later_size _ _ | refine Nat.le_trans ?_ (later_size _ _) | refine Nat.le_trans ?_ (size_alloc_le _ _) | refine Nat.le_trans ?_ (Nat.le_add_right _ _))) hb7); have hgy7 := lt_later _ y7 go5 q5; have hO8 := hO7.wide (show w.heap.size ≤ (later w5 y).heap.size from Nat.le_trans hge (later_size _ _)) (Nat.le_refl _); clear hb7 hO7)
          rw [hsn.out] at hO8
          go_roundw
          case rel => exact ⟨i + 1, go7, cap7, p - r.b, tk ++ [r], (by repeat (with_reducible first | exact hbD | exact Below.refl _ _ | refine bw_later ?_ _ | refine bw_alloc ?_ _ | refine bw_drew ?_ | refine bw_set ?_ (Nat.le_refl _) _ | refine bw_set ?_ ?_ _ | exact Nat.le_refl _ | exact later_size _ _ | refine Nat.le_trans ?_ (later_size _ _) | refine Nat.le_trans ?_ (size_alloc_le _ _) | refine Nat.le_trans ?_ (Nat.le_add_right _ _))), by omega, by go_num, rfl, by omega, by omega, by rw [hln.out], by rw [hln.out]; exact hO8, by rw [hln.out]; omega, by rw [hln.out]; omega, hgo7, hG3⟩
          case measure => simp [intOf]; omega
    · obtain rfl : i = n := by omega
      have hstop := Lib.hid (hG.out.stop (.inr (by rw [List.drop_eq_nil_of_le (by have := h5l.out; omega)]; rfl)))
      by_cases hp : p ≤ 0
      · go_wp2
        go_ret2
        rw [hfin.out, hstop.out, fewOut_yes (by omega)]
        exact ⟨_, tk.length, cap, rfl, hO, by omega, (bw_trans (a := w) (b := (w.alloc (.cells #[] 3))) (by repeat (with_reducible first | exact hbD | exact Below.refl _ _ | refine bw_later ?_ _ | refine bw_alloc ?_ _ | refine bw_drew ?_ | refine bw_set ?_ (Nat.le_refl _) _ | refine bw_set ?_ ?_ _ | exact Nat.le_refl _ | exact later_size _ _ | refine Nat.le_trans ?_ (later_size _ _) | refine Nat.le_trans ?_ (size_alloc_le _ _) | refine Nat.le_trans ?_ (Nat.le_add_right _ _))) (bw_trans hb5 (by repeat (with_reducible first | exact hbD | exact Below.refl _ _ | refine bw_later ?_ _ | refine bw_alloc ?_ _ | refine bw_drew ?_ | refine bw_set ?_ (Nat.le_refl _) _ | refine bw_set ?_ ?_ _ | exact Nat.le_refl _ | exact later_size _ _ | refine Nat.le_trans ?_ (later_size _ _) | refine Nat.le_trans ?_ (size_alloc_le _ _) | refine Nat.le_trans ?_ (Nat.le_add_right _ _)))))⟩
      · go_wp2
        go_ret2
        rw [hfin.out, hstop.out, fewOut_no (by show 0 < p; omega)]
        exact ⟨_, 0, _, rfl, ⟨rfl, fun h => absurd h (by omega)⟩, by omega, (bw_trans (a := w) (b := (w.alloc (.cells #[] 3))) (by repeat (with_reducible first | exact hbD | exact Below.refl _ _ | refine bw_later ?_ _ | refine bw_alloc ?_ _ | refine bw_drew ?_ | refine bw_set ?_ (Nat.le_refl _) _ | refine bw_set ?_ ?_ _ | exact Nat.le_refl _ | exact later_size _ _ | refine Nat.le_trans ?_ (later_size _ _) | refine Nat.le_trans ?_ (size_alloc_le _ _) | refine Nat.le_trans ?_ (Nat.le_add_right _ _))) (bw_trans hb5 (by repeat (with_reducible first | exact hbD | exact Below.refl _ _ | refine bw_later ?_ _ | refine bw_alloc ?_ _ | refine bw_drew ?_ | refine bw_set ?_ (Nat.le_refl _) _ | refine bw_set ?_ ?_ _ | exact Nat.le_refl _ | exact later_size _ _ | refine Nat.le_trans ?_ (later_size _ _) | refine Nat.le_trans ?_ (size_alloc_le _ _) | refine Nat.le_trans ?_ (Nat.le_add_right _ _)))))⟩
theorem law_FewestCabins (A0 : Option Addr) (n0 c0 : Nat) (xs0 : List R5) (a1 : Int) (w : World) (rd0 : AR5 w A0 n0 xs0 ∧ n0 ≤ 9223372036854775807) (_ia1 : I64 a1) : Gv Try.prog 10 #[.slice A0 n0 c0, .int .i64 a1] w (.bool true) := by
  obtain ⟨ha0, hm0⟩ := rd0
  unfold Gv
  by_cases k0 : 1048576 < n0
  · have zz0 : szF n0 ((1048576 : Int)) = -1 := by unfold szF; rw [if_pos (by omega)]
    go_enter Try.func10, Try.ntmps10
    have hw : Below w.heap.size w w := Below.refl _ _
    go_wp2_with fail
    refine Calls.mono (szCabin_any A0 n0 c0 ((1048576 : Int)) hm0 (by omega) (by omega) _) ?_
    rintro _ w1 ⟨rfl, b1⟩
    replace hw := bw_trans hw b1
    have z1 := b1.size
    rw [zz0]
    clear zz0
    go_wp2_with fail
    go_ret
    exact ⟨rfl, hw⟩
  · have hn0 : n0 ≤ 1048576 := by omega
    have zz0 : szF n0 ((1048576 : Int)) = (1048576 : Int) - (n0 : Int) := by unfold szF; rw [if_neg (by omega)]
    go_enter Try.func10, Try.ntmps10
    have hw : Below w.heap.size w w := Below.refl _ _
    go_wp2_with fail
    refine Calls.mono (szCabin_any A0 n0 c0 ((1048576 : Int)) hm0 (by omega) (by omega) _) ?_
    rintro _ w1 ⟨rfl, b1⟩
    replace hw := bw_trans hw b1
    have z1 := b1.size
    rw [zz0]
    clear zz0
    go_wp2_with fail
    refine Calls.mono (toCabinS_any A0 n0 c0 xs0 _ (ha0.below2 hw) hn0) ?_
    rintro _ w2 ⟨g2, rfl, q2, hB2, b2⟩
    replace hw := bw_trans hw b2
    have z2 := b2.size
    have u2 := hB2.lt
    have hO2 := hB2.own q2 u2
    go_wp2_with fail
    refine Calls.mono (s_FewestCabins_any g2 0 n0 n0 xs0 a1 _ hB2.reads hn0) ?_
    rintro _ w3 ⟨Ar3, m3, d3, rfl, hO3, l3, b3⟩
    replace hO2 := hO2.below2 b3
    replace hw := bw_trans hw b3
    have z3 := b3.size
    replace hB2 := hB2.below2 b3
    go_wp2_with fail
    refine Calls.mono (toCabinS_any A0 n0 c0 xs0 _ (ha0.below2 hw) hn0) ?_
    rintro _ w4 ⟨g4, rfl, q4, hB4, b4⟩
    replace hO3 := hO3.below2 b4
    replace hw := bw_trans hw b4
    have z4 := b4.size
    have u4 := hB4.lt
    have hO4 := hB4.own q4 u4
    go_wp2_with fail
    refine Calls.mono (i_FewestCabins_any g4 0 n0 n0 xs0 a1 _ hB4.reads hn0) ?_
    rintro _ w5 ⟨Ar5, m5, d5, rfl, hO5, l5, b5⟩
    replace hO3 := hO3.below2 b5
    replace hO4 := hO4.below2 b5
    replace hw := bw_trans hw b5
    have z5 := b5.size
    replace hB4 := hB4.below2 b5
    go_wp2_with fail
    refine Calls.mono (eqIntS_any _ _ m5 m3 d5 d3 _ _ _ hO5.reads hO3.reads l5 l3) ?_
    rintro _ w6 ⟨rfl, b6⟩
    replace hO3 := hO3.below2 b6
    replace hO4 := hO4.below2 b6
    replace hO5 := hO5.below2 b6
    replace hw := bw_trans hw b6
    have z6 := b6.size
    go_wp2_with fail
    refine Calls.mono (toCabinS_any A0 n0 c0 xs0 _ (ha0.below2 hw) hn0) ?_
    rintro _ w7 ⟨g7, rfl, q7, hB7, b7⟩
    replace hO3 := hO3.below2 b7
    replace hO4 := hO4.below2 b7
    replace hO5 := hO5.below2 b7
    replace hw := bw_trans hw b7
    have z7 := b7.size
    have u7 := hB7.lt
    have hO7 := hB7.own q7 u7
    go_wp2_with fail
    refine Calls.mono (eqCabinS_any _ _ n0 n0 n0 n0 xs0 xs0 _ hO4.reads hO7.reads hn0 hn0) ?_
    rintro _ w8 ⟨rfl, b8⟩
    replace hO3 := hO3.below2 b8
    replace hO4 := hO4.below2 b8
    replace hO5 := hO5.below2 b8
    replace hO7 := hO7.below2 b8
    replace hw := bw_trans hw b8
    have z8 := b8.size
    go_wp2_with fail
    refine Calls.mono (markCabinS_any _ _ _ n0 n0 1 _ _ hO4 hn0 (by omega) (by omega)) ?_
    rintro _ w9 ⟨rfl, hO4, t9⟩
    replace hO3 := hO3.tch t9 (by omega) (by omega)
    replace hO5 := hO5.tch t9 (by omega) (by omega)
    replace hw := hw.trans (t9.below (B := w.heap.size) (by omega) (by omega))
    have z9 := t9.size
    go_wp2_with fail
    refine Calls.mono (eqIntS_any _ _ m5 m3 d5 d3 _ _ _ hO5.reads hO3.reads l5 l3) ?_
    rintro _ w10 ⟨rfl, b10⟩
    replace hO3 := hO3.below2 b10
    replace hO5 := hO5.below2 b10
    replace hw := bw_trans hw b10
    have z10 := b10.size
    go_wp2_with fail
    refine Calls.mono (markIntS_any _ _ _ m5 d5 1 _ _ hO5 l5 (by omega) (by omega)) ?_
    rintro _ w11 ⟨rfl, hO5, t11⟩
    replace hO3 := hO3.tch t11 (by omega) (by omega)
    replace hw := hw.trans (t11.below (B := w.heap.size) (by omega) (by omega))
    have z11 := t11.size
    go_wp2_with fail
    refine Calls.mono (heldIntS_any _ m5 d5 1 _ hO5.reads l5 (by omega) (by omega)) ?_
    rintro _ w12 ⟨rfl, b12⟩
    replace hO3 := hO3.below2 b12
    replace hO5 := hO5.below2 b12
    replace hw := bw_trans hw b12
    have z12 := b12.size
    go_wp2_with fail
    refine Calls.mono (toCabinS_any A0 n0 c0 xs0 _ (ha0.below2 hw) hn0) ?_
    rintro _ w13 ⟨g13, rfl, q13, hB13, b13⟩
    replace hO3 := hO3.below2 b13
    replace hO5 := hO5.below2 b13
    replace hw := bw_trans hw b13
    have z13 := b13.size
    have u13 := hB13.lt
    have hO13 := hB13.own q13 u13
    go_wp2_with fail
    refine Calls.mono (i_FewestCabins_any g13 0 n0 n0 xs0 a1 _ hB13.reads hn0) ?_
    rintro _ w14 ⟨Ar14, m14, d14, rfl, hO14, l14, b14⟩
    replace hO3 := hO3.below2 b14
    replace hO5 := hO5.below2 b14
    replace hO13 := hO13.below2 b14
    replace hw := bw_trans hw b14
    have z14 := b14.size
    replace hB13 := hB13.below2 b14
    go_wp2_with fail
    refine Calls.mono (eqIntS_any _ _ m14 m3 d14 d3 _ _ _ hO14.reads hO3.reads l14 l3) ?_
    rintro _ w15 ⟨rfl, b15⟩
    replace hO3 := hO3.below2 b15
    replace hO5 := hO5.below2 b15
    replace hO14 := hO14.below2 b15
    replace hw := bw_trans hw b15
    have z15 := b15.size
    go_wp2_with fail
    refine Calls.mono (heldIntS_any _ m5 d5 1 _ hO5.reads l5 (by omega) (by omega)) ?_
    rintro _ w16 ⟨rfl, b16⟩
    replace hO3 := hO3.below2 b16
    replace hO5 := hO5.below2 b16
    replace hO14 := hO14.below2 b16
    replace hw := bw_trans hw b16
    have z16 := b16.size
    go_wp2_with fail
    go_ret
    exact ⟨rfl, hw⟩
end Go.Proofs.Ytnemamokjikdeaa
