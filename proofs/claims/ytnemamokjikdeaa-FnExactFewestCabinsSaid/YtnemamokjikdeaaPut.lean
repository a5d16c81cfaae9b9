/- A number put to its place: the reference. Rows of numbers in the words of the library's row kit. -/
import Derived.Test.YtnemamokjikdeaaApp3
import Derived.Test.YtnemamokjikdeaaFewP
import Derived.Test.YtnemamokjikdeaaClone2
namespace Go.Proofs.Ytnemamokjikdeaa
open Go Go.RowKit Go.Sort
theorem infoI : (Try.prog.info? 3).map (fun i => (i.zero, i.size, i.bytes)) = some (some (.int .i64 0), 1, 8) := by kernel_rfl
theorem kindInt : ∃ i, RowKind Try.prog 41 3 i (.int .i64 0) 1 8 := by
  obtain ⟨i0, hi, hz0, hz1, hz2⟩ := info_parts infoI
  exact ⟨i0, Try.underlying41, hi, hz0, hz1, hz2, rfl, by decide, by decide⟩
theorem SI.cells_of {w W : World} {g n : Nat} {xs : List Int} (h : SI w g 0 n xs) (hb : Below w.heap.size w W) (k : Nat) (ys : List Int) (hys : ∀ j q, ys[j]? = some q → xs[k + j]? = some q) : ∀ j u, (ys.map (Value.int .i64))[j]? = some u → W.cell? ((⟨g, k, none⟩ : Addr).add j) = some u := by
  intro j u hj
  rw [List.getElem?_map] at hj
  cases hq : ys[j]? with
  | none => rw [hq] at hj; cases hj
  | some q =>
    rw [hq] at hj
    simp only [Option.map_some, Option.some.injEq] at hj
    subst hj
    rw [addr_lit]
    have := h.2.2 (k + j) q (hys j q hq)
    rw [hb.cell (p := ⟨g, k + j, none⟩) h.1]
    rw [Nat.zero_add] at this
    exact this
theorem ints_one (l : List Int) : ∀ u ∈ l.map (Value.int .i64), u.oneCell' = true := by
  intro u hu
  obtain ⟨q, -, rfl⟩ := List.mem_map.1 hu
  rfl
theorem OI.lt_of {w : World} {lo hi g n : Nat} {xs : List Int} (h : OI w lo hi (some ⟨g, 0, none⟩) n xs) (h0 : 0 < n) : g < w.heap.size := by
  obtain ⟨g', e, _, _, h1, _⟩ := h.cells h0
  simp only [Option.some.injEq, Addr.mk.injEq, and_true] at e
  subst e
  exact h1
theorem OI.si {w : World} {lo hi g n : Nat} {xs : List Int} (h : OI w lo hi (some ⟨g, 0, none⟩) n xs) (hg : g < w.heap.size) : SI w g 0 n xs := by
  rcases Nat.eq_zero_or_pos n with h0 | h0
  · subst h0
    have : xs = [] := List.eq_nil_of_length_eq_zero h.1
    subst this
    exact ⟨hg, rfl, fun i r hi => by simp at hi⟩
  · obtain ⟨g', e, _, _, h1, _, h3⟩ := h.cells h0
    simp only [Option.some.injEq, Addr.mk.injEq, and_true] at e
    subst e
    exact ⟨h1, h.1, fun i r hi => by simpa using h3 i r hi⟩
set_option maxHeartbeats 4000000 in
theorem l1Put_any (g m c : Nat) (l : List Int) (z : Int) (w : World) (hs : SI w g 0 m l) (hm : m ≤ 1000) (hmc : m ≤ c) (hz : z ∉ l) :
    Calls Try.prog 51 #[.slice (some ⟨g, 0, none⟩) m c, .int .i64 z] w fun e w' => ∃ go cap, e = .returned (.slice (some ⟨go, 0, none⟩) (m + 1) cap) ∧ OI w' w.heap.size w'.heap.size (some ⟨go, 0, none⟩) (m + 1) (putL z l) ∧ m + 1 ≤ cap ∧ go < w'.heap.size ∧ Below w.heap.size w w' := by
  obtain ⟨ik, hKind⟩ := kindInt
  have hlen := hs.2.1
  have hl := Lib.hid hs.2.1
  have hg := hs.1
  have HZ := Lib.hid hz
  clear hz
  go_enter Try.func51, Try.ntmps51
  go_wp2
  go_loopw [5] (fun i wr => ∃ k : Nat, k ≤ m ∧ i = .int .i64 (k : Int) ∧ Below w.heap.size w wr ∧ Hid (∀ j, j < k → ∀ q, l[j]? = some q → q < z)) (fun i _ => m - (intOf i).toNat)
  case atStart => exact ⟨0, by omega, rfl, Below.refl _ _, Lib.hid fun j hj => absurd hj (by omega)⟩
  case round =>
    obtain ⟨k, hk, rfl, hbw, ha⟩ := hrel
    obtain ⟨y, rfl⟩ := exists_later hbw
    clear hbw
    have hgy := lt_later _ y g hg
    have kc1 : (k : Int) ≤ (c : Int) := by omega
    have kc2 : (k : Int) ≤ (m : Int) := by omega
    have kc3 : (0 : Int) ≤ (k : Int) := by omega
    by_cases hlt : k < m
    · obtain ⟨q, hq0⟩ := hs.at_ hlt
      have c0 := hs.2.2 k q hq0
      simp only [Nat.zero_add] at c0
      have hq := Lib.hid hq0
      have hne : q ≠ z := fun h => HZ.out (h ▸ List.mem_of_getElem? hq0)
      clear hq0
      by_cases hp : q < z
      · have hst : Hid (∀ j, j < k + 1 → ∀ q, l[j]? = some q → q < z) := Lib.hid fun j hj p hp' => by
          rcases Nat.lt_or_ge j k with h | h
          · exact ha.out j h p hp'
          · have hjk : j = k := by omega
            rw [hjk, hq.out] at hp'
            cases hp'
            exact hp
        go_wp2
        go_roundw
        case rel => exact ⟨k + 1, by omega, by go_num, (by repeat (with_reducible first | exact hbD | exact Below.refl _ _ | refine bw_later ?_ _ | refine bw_alloc ?_ _ | refine bw_drew ?_ | refine bw_set ?_ (Nat.le_refl _) _ | refine bw_set ?_ ?_ _ | exact Nat.le_refl _ | exact later_size _ _ | refine Nat.le_trans ?_ (later_size _ _) | refine Nat.le_trans ?_ (size_alloc_le _ _) | refine Nat.le_trans ?_ (Nat.le_add_right _ _))), hst⟩
        case measure => simp [intOf]; omega
      · have hP := Lib.hid (putK_is (n := z) (l := l) (k := k) (by omega) ha.out (fun p hp' => by rw [hq.out] at hp'; cases hp'; exact hp))
        have hne' : (q == z) = false := by simpa using hne
        have hcm : ¬ c = k := by omega
        go_wp2
        have hF1 : Hid (∀ W, Below w.heap.size w W → ∀ j u, ((l.take k).map (Value.int .i64))[j]? = some u → W.cell? ((⟨g, 0, none⟩ : Addr).add j) = some u) := Lib.hid fun W hb => SI.cells_of hs hb 0 _ (fun j q hq => by rw [List.getElem?_take] at hq; split at hq; (rw [Nat.zero_add]; exact hq); cases hq)
        have hF2 : Hid (∀ W, Below w.heap.size w W → ∀ j u, ((l.drop k).map (Value.int .i64))[j]? = some u → W.cell? ((⟨g, k, none⟩ : Addr).add j) = some u) := Lib.hid fun W hb => SI.cells_of hs hb (k) _ (fun j q hq => by rw [List.getElem?_drop] at hq; exact hq)
        have hl1 : Hid (((l.take k).map (Value.int .i64)).length = k * 1) := Lib.hid (by rw [List.length_map, List.length_take]; omega)
        have hl2 : Hid (((l.drop k).map (Value.int .i64)).length = (m - k) * 1) := Lib.hid (by rw [List.length_map, List.length_drop]; omega)
        have hins : Hid ((l.take k).map (Value.int .i64) ++ (#[Value.int .i64 z] : Array Value).toList ++ (l.drop k).map (Value.int .i64) = (putL z l).map (Value.int .i64)) := Lib.hid (by unfold putL; rw [hP.out]; simp)
        have hplen : Hid ((putL z l).length = m + 1) := Lib.hid (by have := (putL_perm z l).length_eq; rw [this]; simp; omega)
        clear hlen
        have hbX := bw_drew (show Below w.heap.size w (later w y) from (by repeat (with_reducible first | exact hbD | exact Below.refl _ _ | refine bw_later ?_ _ | refine bw_alloc ?_ _ | refine bw_drew ?_ | refine bw_set ?_ (Nat.le_refl _) _ | refine bw_set ?_ ?_ _ | exact Nat.le_refl _ | exact later_size _ _ | refine Nat.le_trans ?_ (later_size _ _) | refine Nat.le_trans ?_ (size_alloc_le _ _) | refine Nat.le_trans ?_ (Nat.le_add_right _ _))))
        refine wp_region_C (Below w.heap.size w) (by kernel_rfl) ?_
        generalize ((later w y)).drew = Wd at hbX ⊢
        have hbD := hbX
        ((refine step_read (i := 1) (by kernel_rfl) (by kernel_rfl) rfl (by repeat (with_reducible first | exact hbD | exact Below.refl _ _ | refine bw_later ?_ _ | refine bw_alloc ?_ _ | refine bw_drew ?_ | refine bw_set ?_ (Nat.le_refl _) _ | refine bw_set ?_ ?_ _ | exact Nat.le_refl _ | exact later_size _ _ | refine Nat.le_trans ?_ (later_size _ _) | refine Nat.le_trans ?_ (size_alloc_le _ _) | refine Nat.le_trans ?_ (Nat.le_add_right _ _))) rfl (fun K hK => ?_); apply Exists.intro; refine ⟨fun x => ?_, ?_⟩; focus (go_simp; (try go_bits); (try go_simp); (try rfl))); (go_simp; (try go_bits); refine hK _ ?_; clear hK K); (refine step_read (i := 2) (by kernel_rfl) (by kernel_rfl) rfl (by repeat (with_reducible first | exact hbD | exact Below.refl _ _ | refine bw_later ?_ _ | refine bw_alloc ?_ _ | refine bw_drew ?_ | refine bw_set ?_ (Nat.le_refl _) _ | refine bw_set ?_ ?_ _ | exact Nat.le_refl _ | exact later_size _ _ | refine Nat.le_trans ?_ (later_size _ _) | refine Nat.le_trans ?_ (size_alloc_le _ _) | refine Nat.le_trans ?_ (Nat.le_add_right _ _))) rfl (fun K hK => ?_); apply Exists.intro; refine ⟨fun x => ?_, ?_⟩; focus (go_simp; (try go_bits); (try go_simp); (try rfl))); (go_simp; (try go_bits); refine hK _ ?_; clear hK K); (refine step_read (i := 3) (by kernel_rfl) (by kernel_rfl) rfl (by repeat (with_reducible first | exact hbD | exact Below.refl _ _ | refine bw_later ?_ _ | refine bw_alloc ?_ _ | refine bw_drew ?_ | refine bw_set ?_ (Nat.le_refl _) _ | refine bw_set ?_ ?_ _ | exact Nat.le_refl _ | exact later_size _ _ | refine Nat.le_trans ?_ (later_size _ _) | refine Nat.le_trans ?_ (size_alloc_le _ _) | refine Nat.le_trans ?_ (Nat.le_add_right _ _))) rfl (fun K hK => ?_); apply Exists.intro; refine ⟨fun x => ?_, ?_⟩; focus (go_simp; (try go_bits); (try go_simp); (try rfl))); (go_simp; (try go_bits); refine hK _ ?_; clear hK K); (refine step_read (i := 5) (by kernel_rfl) (by kernel_rfl) rfl (by repeat (with_reducible first | exact hbD | exact Below.refl _ _ | refine bw_later ?_ _ | refine bw_alloc ?_ _ | refine bw_drew ?_ | refine bw_set ?_ (Nat.le_refl _) _ | refine bw_set ?_ ?_ _ | exact Nat.le_refl _ | exact later_size _ _ | refine Nat.le_trans ?_ (later_size _ _) | refine Nat.le_trans ?_ (size_alloc_le _ _) | refine Nat.le_trans ?_ (Nat.le_add_right _ _))) rfl (fun K hK => ?_); apply Exists.intro; refine ⟨fun x => ?_, ?_⟩; focus (go_simp; (try go_bits); (try go_simp); (try rfl))); (go_simp; (try go_bits); refine hK _ ?_; clear hK K); (refine step_read (i := 8) (by kernel_rfl) (by kernel_rfl) rfl (by repeat (with_reducible first | exact hbD | exact Below.refl _ _ | refine bw_later ?_ _ | refine bw_alloc ?_ _ | refine bw_drew ?_ | refine bw_set ?_ (Nat.le_refl _) _ | refine bw_set ?_ ?_ _ | exact Nat.le_refl _ | exact later_size _ _ | refine Nat.le_trans ?_ (later_size _ _) | refine Nat.le_trans ?_ (size_alloc_le _ _) | refine Nat.le_trans ?_ (Nat.le_add_right _ _))) rfl (fun K hK => ?_); apply Exists.intro; refine ⟨fun x => ?_, ?_⟩; focus (go_simp; (try go_bits); (try go_simp); (try rfl))); (go_simp; (try go_bits); refine hK _ ?_; clear hK K); (refine step_read (i := 9) (by kernel_rfl) (by kernel_rfl) rfl (by repeat (with_reducible first | exact hbD | exact Below.refl _ _ | refine bw_later ?_ _ | refine bw_alloc ?_ _ | refine bw_drew ?_ | refine bw_set ?_ (Nat.le_refl _) _ | refine bw_set ?_ ?_ _ | exact Nat.le_refl _ | exact later_size _ _ | refine Nat.le_trans ?_ (later_size _ _) | refine Nat.le_trans ?_ (size_alloc_le _ _) | refine Nat.le_trans ?_ (Nat.le_add_right _ _))) rfl (fun K hK => ?_); apply Exists.intro; refine ⟨fun x => ?_, ?_⟩; focus (go_simp; (try go_bits); (try go_simp); (try rfl))); (go_simp; (try go_bits); refine hK _ ?_; clear hK K); (refine step_read (i := 10) (by kernel_rfl) (by kernel_rfl) rfl (by repeat (with_reducible first | exact hbD | exact Below.refl _ _ | refine bw_later ?_ _ | refine bw_alloc ?_ _ | refine bw_drew ?_ | refine bw_set ?_ (Nat.le_refl _) _ | refine bw_set ?_ ?_ _ | exact Nat.le_refl _ | exact later_size _ _ | refine Nat.le_trans ?_ (later_size _ _) | refine Nat.le_trans ?_ (size_alloc_le _ _) | refine Nat.le_trans ?_ (Nat.le_add_right _ _))) rfl (fun K hK => ?_); apply Exists.intro; refine ⟨fun x => ?_, ?_⟩; focus (go_simp; (try go_bits); (try go_simp); (try rfl))); (go_simp; (try go_bits); refine hK _ ?_; clear hK K))
        refine step_app3 hKind (i0 := 0) (i4 := 4) (i9 := 6) (i10 := 7) (i14 := 11) (d0 := 33) (d4 := 37) (d9 := 39) (d10 := 40) (d14 := 44) (tk := 36) (tm := 43) (tx := 38) (k := k) (m := m - k) (N1 := (l.take k).map (Value.int .i64)) (N2 := (l.drop k).map (Value.int .i64)) (X := #[.int .i64 z]) (by kernel_rfl) (by kernel_rfl) (by kernel_rfl) (by kernel_rfl) (by kernel_rfl) (by kernel_rfl) (by kernel_rfl) rfl rfl rfl rfl rfl (by decide) (by decide) rfl rfl rfl rfl rfl rfl rfl rfl rfl rfl rfl (by decide) (by simp) (fun ys => rfl) (fun a' w => by go_simp) (fun ys => rfl) (fun a' ha w => by have ha' : a'.tmps[38]?.getD undef = .int .i64 z := (by simpa [Act.eval] using ha); clear ha; go_simp; done) rfl hl1.out (hF1.out _ (by repeat (with_reducible first | exact hbD | exact Below.refl _ _ | refine bw_later ?_ _ | refine bw_alloc ?_ _ | refine bw_drew ?_ | refine bw_set ?_ (Nat.le_refl _) _ | refine bw_set ?_ ?_ _ | exact Nat.le_refl _ | exact later_size _ _ | refine Nat.le_trans ?_ (later_size _ _) | refine Nat.le_trans ?_ (size_alloc_le _ _) | refine Nat.le_trans ?_ (Nat.le_add_right _ _)))) (ints_one _) rfl hl2.out (hF2.out _ (by repeat (with_reducible first | exact hbD | exact Below.refl _ _ | refine bw_later ?_ _ | refine bw_alloc ?_ _ | refine bw_drew ?_ | refine bw_set ?_ (Nat.le_refl _) _ | refine bw_set ?_ ?_ _ | exact Nat.le_refl _ | exact later_size _ _ | refine Nat.le_trans ?_ (later_size _ _) | refine Nat.le_trans ?_ (size_alloc_le _ _) | refine Nat.le_trans ?_ (Nat.le_add_right _ _)))) (ints_one _) rfl (fun u hu => by simp at hu; subst hu; rfl) (by omega) (by repeat (with_reducible first | exact hbD | exact Below.refl _ _ | refine bw_later ?_ _ | refine bw_alloc ?_ _ | refine bw_drew ?_ | refine bw_set ?_ (Nat.le_refl _) _ | refine bw_set ?_ ?_ _ | exact Nat.le_refl _ | exact later_size _ _ | refine Nat.le_trans ?_ (later_size _ _) | refine Nat.le_trans ?_ (size_alloc_le _ _) | refine Nat.le_trans ?_ (Nat.le_add_right _ _))) (fun K hK u0 u4 u9 u10 v yv hown => ?_)
        rw [show k + 1 + (m - k) = m + 1 by omega, hins.out] at hown
        have hcap' := hown
        obtain ⟨A', c', e', hO'⟩ := OI_of_own hown
        obtain ⟨go', cap', rfl, hb1, hb2⟩ := own_slice hown (by omega)
        simp only [Value.slice.injEq, true_and] at e'
        obtain ⟨rfl, rfl⟩ := e'
        have hcap2 := own_cap hcap'
        have hO2 := Lib.hid (hO'.wide (Below.size (by repeat (with_reducible first | exact hbD | exact Below.refl _ _ | refine bw_later ?_ _ | refine bw_alloc ?_ _ | refine bw_drew ?_) : Below w.heap.size w _)) (Nat.le_refl _))
        clear hcap' hown hO'
        go_simp
        refine hK _ _ ?_
        clear hK K
        (refine step_one (i := 12) (by kernel_rfl) rfl (by repeat (with_reducible first | exact hbD | exact Below.refl _ _ | refine bw_later ?_ _ | refine bw_alloc ?_ _ | refine bw_drew ?_ | refine bw_set ?_ (Nat.le_refl _) _ | refine bw_set ?_ ?_ _ | exact Nat.le_refl _ | exact later_size _ _ | refine Nat.le_trans ?_ (later_size _ _) | refine Nat.le_trans ?_ (size_alloc_le _ _) | refine Nat.le_trans ?_ (Nat.le_add_right _ _))) (fun K hK => ?_); go_wp2; (try refine hK _ _ ?_); (try clear hK K))
        (refine step_end (by kernel_rfl) (by repeat (with_reducible first | exact hbD | exact Below.refl _ _ | refine bw_later ?_ _ | refine bw_alloc ?_ _ | refine bw_drew ?_ | refine bw_set ?_ (Nat.le_refl _) _ | refine bw_set ?_ ?_ _ | exact Nat.le_refl _ | exact later_size _ _ | refine Nat.le_trans ?_ (later_size _ _) | refine Nat.le_trans ?_ (size_alloc_le _ _) | refine Nat.le_trans ?_ (Nat.le_add_right _ _))) ?_)
        go_wp2
        go_ret
        exact ⟨go', cap', rfl, hO2.out, hcap2, hb2, (by repeat (with_reducible first | exact hbD | exact Below.refl _ _ | refine bw_later ?_ _ | refine bw_alloc ?_ _ | refine bw_drew ?_) : Below w.heap.size w _)⟩
    · obtain rfl : k = m := by omega
      have hP := Lib.hid (putK_is (n := z) (l := l) (k := k) (by omega) ha.out (fun p hp' => by have := (List.getElem?_eq_some_iff.1 hp').1; omega))
      by_cases hce : c = k
      · go_wp2
        have hF1 : Hid (∀ W, Below w.heap.size w W → ∀ j u, ((l.take k).map (Value.int .i64))[j]? = some u → W.cell? ((⟨g, 0, none⟩ : Addr).add j) = some u) := Lib.hid fun W hb => SI.cells_of hs hb 0 _ (fun j q hq => by rw [List.getElem?_take] at hq; split at hq; (rw [Nat.zero_add]; exact hq); cases hq)
        have hF2 : Hid (∀ W, Below w.heap.size w W → ∀ j u, ((l.drop k).map (Value.int .i64))[j]? = some u → W.cell? ((⟨g, 0, none⟩ : Addr).add j) = some u) := Lib.hid fun W hb j u hu => by rw [List.drop_eq_nil_of_le (by omega)] at hu; simp at hu
        have hl1 : Hid (((l.take k).map (Value.int .i64)).length = k * 1) := Lib.hid (by rw [List.length_map, List.length_take]; omega)
        have hl2 : Hid (((l.drop k).map (Value.int .i64)).length = (0) * 1) := Lib.hid (by rw [List.length_map, List.length_drop]; omega)
        have hins : Hid ((l.take k).map (Value.int .i64) ++ (#[Value.int .i64 z] : Array Value).toList ++ (l.drop k).map (Value.int .i64) = (putL z l).map (Value.int .i64)) := Lib.hid (by unfold putL; rw [hP.out]; simp)
        have hplen : Hid ((putL z l).length = k + 1) := Lib.hid (by have := (putL_perm z l).length_eq; rw [this]; simp; omega)
        clear hlen
        have hbX := bw_drew (show Below w.heap.size w (later w y) from (by repeat (with_reducible first | exact hbD | exact Below.refl _ _ | refine bw_later ?_ _ | refine bw_alloc ?_ _ | refine bw_drew ?_ | refine bw_set ?_ (Nat.le_refl _) _ | refine bw_set ?_ ?_ _ | exact Nat.le_refl _ | exact later_size _ _ | refine Nat.le_trans ?_ (later_size _ _) | refine Nat.le_trans ?_ (size_alloc_le _ _) | refine Nat.le_trans ?_ (Nat.le_add_right _ _))))
        refine wp_region_C (Below w.heap.size w) (by kernel_rfl) ?_
        generalize ((later w y)).drew = Wd at hbX ⊢
        have hbD := hbX
        ((refine step_read (i := 1) (by kernel_rfl) (by kernel_rfl) rfl (by repeat (with_reducible first | exact hbD | exact Below.refl _ _ | refine bw_later ?_ _ | refine bw_alloc ?_ _ | refine bw_drew ?_ | refine bw_set ?_ (Nat.le_refl _) _ | refine bw_set ?_ ?_ _ | exact Nat.le_refl _ | exact later_size _ _ | refine Nat.le_trans ?_ (later_size _ _) | refine Nat.le_trans ?_ (size_alloc_le _ _) | refine Nat.le_trans ?_ (Nat.le_add_right _ _))) rfl (fun K hK => ?_); apply Exists.intro; refine ⟨fun x => ?_, ?_⟩; focus (go_simp; (try go_bits); (try go_simp); (try rfl))); (go_simp; (try go_bits); refine hK _ ?_; clear hK K); (refine step_read (i := 2) (by kernel_rfl) (by kernel_rfl) rfl (by repeat (with_reducible first | exact hbD | exact Below.refl _ _ | refine bw_later ?_ _ | refine bw_alloc ?_ _ | refine bw_drew ?_ | refine bw_set ?_ (Nat.le_refl _) _ | refine bw_set ?_ ?_ _ | exact Nat.le_refl _ | exact later_size _ _ | refine Nat.le_trans ?_ (later_size _ _) | refine Nat.le_trans ?_ (size_alloc_le _ _) | refine Nat.le_trans ?_ (Nat.le_add_right _ _))) rfl (fun K hK => ?_); apply Exists.intro; refine ⟨fun x => ?_, ?_⟩; focus (go_simp; (try go_bits); (try go_simp); (try rfl))); (go_simp; (try go_bits); refine hK _ ?_; clear hK K); (refine step_read (i := 3) (by kernel_rfl) (by kernel_rfl) rfl (by repeat (with_reducible first | exact hbD | exact Below.refl _ _ | refine bw_later ?_ _ | refine bw_alloc ?_ _ | refine bw_drew ?_ | refine bw_set ?_ (Nat.le_refl _) _ | refine bw_set ?_ ?_ _ | exact Nat.le_refl _ | exact later_size _ _ | refine Nat.le_trans ?_ (later_size _ _) | refine Nat.le_trans ?_ (size_alloc_le _ _) | refine Nat.le_trans ?_ (Nat.le_add_right _ _))) rfl (fun K hK => ?_); apply Exists.intro; refine ⟨fun x => ?_, ?_⟩; focus (go_simp; (try go_bits); (try go_simp); (try rfl))); (go_simp; (try go_bits); refine hK _ ?_; clear hK K); (refine step_read (i := 5) (by kernel_rfl) (by kernel_rfl) rfl (by repeat (with_reducible first | exact hbD | exact Below.refl _ _ | refine bw_later ?_ _ | refine bw_alloc ?_ _ | refine bw_drew ?_ | refine bw_set ?_ (Nat.le_refl _) _ | refine bw_set ?_ ?_ _ | exact Nat.le_refl _ | exact later_size _ _ | refine Nat.le_trans ?_ (later_size _ _) | refine Nat.le_trans ?_ (size_alloc_le _ _) | refine Nat.le_trans ?_ (Nat.le_add_right _ _))) rfl (fun K hK => ?_); apply Exists.intro; refine ⟨fun x => ?_, ?_⟩; focus (go_simp; (try go_bits); (try go_simp); (try rfl))); (go_simp; (try go_bits); refine hK _ ?_; clear hK K); (refine step_read (i := 8) (by kernel_rfl) (by kernel_rfl) rfl (by repeat (with_reducible first | exact hbD | exact Below.refl _ _ | refine bw_later ?_ _ | refine bw_alloc ?_ _ | refine bw_drew ?_ | refine bw_set ?_ (Nat.le_refl _) _ | refine bw_set ?_ ?_ _ | exact Nat.le_refl _ | exact later_size _ _ | refine Nat.le_trans ?_ (later_size _ _) | refine Nat.le_trans ?_ (size_alloc_le _ _) | refine Nat.le_trans ?_ (Nat.le_add_right _ _))) rfl (fun K hK => ?_); apply Exists.intro; refine ⟨fun x => ?_, ?_⟩; focus (go_simp; (try go_bits); (try go_simp); (try rfl))); (go_simp; (try go_bits); refine hK _ ?_; clear hK K); (refine step_read (i := 9) (by kernel_rfl) (by kernel_rfl) rfl (by repeat (with_reducible first | exact hbD | exact Below.refl _ _ | refine bw_later ?_ _ | refine bw_alloc ?_ _ | refine bw_drew ?_ | refine bw_set ?_ (Nat.le_refl _) _ | refine bw_set ?_ ?_ _ | exact Nat.le_refl _ | exact later_size _ _ | refine Nat.le_trans ?_ (later_size _ _) | refine Nat.le_trans ?_ (size_alloc_le _ _) | refine Nat.le_trans ?_ (Nat.le_add_right _ _))) rfl (fun K hK => ?_); apply Exists.intro; refine ⟨fun x => ?_, ?_⟩; focus (go_simp; (try go_bits); (try go_simp); (try rfl))); (go_simp; (try go_bits); refine hK _ ?_; clear hK K); (refine step_read (i := 10) (by kernel_rfl) (by kernel_rfl) rfl (by repeat (with_reducible first | exact hbD | exact Below.refl _ _ | refine bw_later ?_ _ | refine bw_alloc ?_ _ | refine bw_drew ?_ | refine bw_set ?_ (Nat.le_refl _) _ | refine bw_set ?_ ?_ _ | exact Nat.le_refl _ | exact later_size _ _ | refine Nat.le_trans ?_ (later_size _ _) | refine Nat.le_trans ?_ (size_alloc_le _ _) | refine Nat.le_trans ?_ (Nat.le_add_right _ _))) rfl (fun K hK => ?_); apply Exists.intro; refine ⟨fun x => ?_, ?_⟩; focus (go_simp; (try go_bits); (try go_simp); (try rfl))); (go_simp; (try go_bits); refine hK _ ?_; clear hK K))
        refine step_app3 hKind (i0 := 0) (i4 := 4) (i9 := 6) (i10 := 7) (i14 := 11) (d0 := 33) (d4 := 37) (d9 := 39) (d10 := 40) (d14 := 44) (tk := 36) (tm := 43) (tx := 38) (k := k) (m := 0) (N1 := (l.take k).map (Value.int .i64)) (N2 := (l.drop k).map (Value.int .i64)) (X := #[.int .i64 z]) (by kernel_rfl) (by kernel_rfl) (by kernel_rfl) (by kernel_rfl) (by kernel_rfl) (by kernel_rfl) (by kernel_rfl) rfl rfl rfl rfl rfl (by decide) (by decide) rfl rfl rfl rfl rfl rfl rfl rfl rfl rfl rfl (by decide) (by simp) (fun ys => rfl) (fun a' w => by go_simp) (fun ys => rfl) (fun a' ha w => by have ha' : a'.tmps[38]?.getD undef = .int .i64 z := (by simpa [Act.eval] using ha); clear ha; go_simp; done) rfl hl1.out (hF1.out _ (by repeat (with_reducible first | exact hbD | exact Below.refl _ _ | refine bw_later ?_ _ | refine bw_alloc ?_ _ | refine bw_drew ?_ | refine bw_set ?_ (Nat.le_refl _) _ | refine bw_set ?_ ?_ _ | exact Nat.le_refl _ | exact later_size _ _ | refine Nat.le_trans ?_ (later_size _ _) | refine Nat.le_trans ?_ (size_alloc_le _ _) | refine Nat.le_trans ?_ (Nat.le_add_right _ _)))) (ints_one _) rfl hl2.out (hF2.out _ (by repeat (with_reducible first | exact hbD | exact Below.refl _ _ | refine bw_later ?_ _ | refine bw_alloc ?_ _ | refine bw_drew ?_ | refine bw_set ?_ (Nat.le_refl _) _ | refine bw_set ?_ ?_ _ | exact Nat.le_refl _ | exact later_size _ _ | refine Nat.le_trans ?_ (later_size _ _) | refine Nat.le_trans ?_ (size_alloc_le _ _) | refine Nat.le_trans ?_ (Nat.le_add_right _ _)))) (ints_one _) rfl (fun u hu => by simp at hu; subst hu; rfl) (by omega) (by repeat (with_reducible first | exact hbD | exact Below.refl _ _ | refine bw_later ?_ _ | refine bw_alloc ?_ _ | refine bw_drew ?_ | refine bw_set ?_ (Nat.le_refl _) _ | refine bw_set ?_ ?_ _ | exact Nat.le_refl _ | exact later_size _ _ | refine Nat.le_trans ?_ (later_size _ _) | refine Nat.le_trans ?_ (size_alloc_le _ _) | refine Nat.le_trans ?_ (Nat.le_add_right _ _))) (fun K hK u0 u4 u9 u10 v yv hown => ?_)
        rw [show k + 1 + (0) = k + 1 by omega, hins.out] at hown
        have hcap' := hown
        obtain ⟨A', c', e', hO'⟩ := OI_of_own hown
        obtain ⟨go', cap', rfl, hb1, hb2⟩ := own_slice hown (by omega)
        simp only [Value.slice.injEq, true_and] at e'
        obtain ⟨rfl, rfl⟩ := e'
        have hcap2 := own_cap hcap'
        have hO2 := Lib.hid (hO'.wide (Below.size (by repeat (with_reducible first | exact hbD | exact Below.refl _ _ | refine bw_later ?_ _ | refine bw_alloc ?_ _ | refine bw_drew ?_) : Below w.heap.size w _)) (Nat.le_refl _))
        clear hcap' hown hO'
        go_simp
        refine hK _ _ ?_
        clear hK K
        (refine step_one (i := 12) (by kernel_rfl) rfl (by repeat (with_reducible first | exact hbD | exact Below.refl _ _ | refine bw_later ?_ _ | refine bw_alloc ?_ _ | refine bw_drew ?_ | refine bw_set ?_ (Nat.le_refl _) _ | refine bw_set ?_ ?_ _ | exact Nat.le_refl _ | exact later_size _ _ | refine Nat.le_trans ?_ (later_size _ _) | refine Nat.le_trans ?_ (size_alloc_le _ _) | refine Nat.le_trans ?_ (Nat.le_add_right _ _))) (fun K hK => ?_); go_wp2; (try refine hK _ _ ?_); (try clear hK K))
        (refine step_end (by kernel_rfl) (by repeat (with_reducible first | exact hbD | exact Below.refl _ _ | refine bw_later ?_ _ | refine bw_alloc ?_ _ | refine bw_drew ?_ | refine bw_set ?_ (Nat.le_refl _) _ | refine bw_set ?_ ?_ _ | exact Nat.le_refl _ | exact later_size _ _ | refine Nat.le_trans ?_ (later_size _ _) | refine Nat.le_trans ?_ (size_alloc_le _ _) | refine Nat.le_trans ?_ (Nat.le_add_right _ _))) ?_)
        go_wp2
        go_ret
        exact ⟨go', cap', rfl, hO2.out, hcap2, hb2, (by repeat (with_reducible first | exact hbD | exact Below.refl _ _ | refine bw_later ?_ _ | refine bw_alloc ?_ _ | refine bw_drew ?_) : Below w.heap.size w _)⟩
      · go_wp2
        have hF1 : Hid (∀ W, Below w.heap.size w W → ∀ j u, ((l.take k).map (Value.int .i64))[j]? = some u → W.cell? ((⟨g, 0, none⟩ : Addr).add j) = some u) := Lib.hid fun W hb => SI.cells_of hs hb 0 _ (fun j q hq => by rw [List.getElem?_take] at hq; split at hq; (rw [Nat.zero_add]; exact hq); cases hq)
        have hF2 : Hid (∀ W, Below w.heap.size w W → ∀ j u, ((l.drop k).map (Value.int .i64))[j]? = some u → W.cell? ((⟨g, k, none⟩ : Addr).add j) = some u) := Lib.hid fun W hb j u hu => by rw [List.drop_eq_nil_of_le (by omega)] at hu; simp at hu
        have hl1 : Hid (((l.take k).map (Value.int .i64)).length = k * 1) := Lib.hid (by rw [List.length_map, List.length_take]; omega)
        have hl2 : Hid (((l.drop k).map (Value.int .i64)).length = (0) * 1) := Lib.hid (by rw [List.length_map, List.length_drop]; omega)
        have hins : Hid ((l.take k).map (Value.int .i64) ++ (#[Value.int .i64 z] : Array Value).toList ++ (l.drop k).map (Value.int .i64) = (putL z l).map (Value.int .i64)) := Lib.hid (by unfold putL; rw [hP.out]; simp)
        have hplen : Hid ((putL z l).length = k + 1) := Lib.hid (by have := (putL_perm z l).length_eq; rw [this]; simp; omega)
        clear hlen
        have hbX := bw_drew (show Below w.heap.size w (later w y) from (by repeat (with_reducible first | exact hbD | exact Below.refl _ _ | refine bw_later ?_ _ | refine bw_alloc ?_ _ | refine bw_drew ?_ | refine bw_set ?_ (Nat.le_refl _) _ | refine bw_set ?_ ?_ _ | exact Nat.le_refl _ | exact later_size _ _ | refine Nat.le_trans ?_ (later_size _ _) | refine Nat.le_trans ?_ (size_alloc_le _ _) | refine Nat.le_trans ?_ (Nat.le_add_right _ _))))
        refine wp_region_C (Below w.heap.size w) (by kernel_rfl) ?_
        generalize ((later w y)).drew = Wd at hbX ⊢
        have hbD := hbX
        ((refine step_read (i := 1) (by kernel_rfl) (by kernel_rfl) rfl (by repeat (with_reducible first | exact hbD | exact Below.refl _ _ | refine bw_later ?_ _ | refine bw_alloc ?_ _ | refine bw_drew ?_ | refine bw_set ?_ (Nat.le_refl _) _ | refine bw_set ?_ ?_ _ | exact Nat.le_refl _ | exact later_size _ _ | refine Nat.le_trans ?_ (later_size _ _) | refine Nat.le_trans ?_ (size_alloc_le _ _) | refine Nat.le_trans ?_ (Nat.le_add_right _ _))) rfl (fun K hK => ?_); apply Exists.intro; refine ⟨fun x => ?_, ?_⟩; focus (go_simp; (try go_bits); (try go_simp); (try rfl))); (go_simp; (try go_bits); refine hK _ ?_; clear hK K); (refine step_read (i := 2) (by kernel_rfl) (by kernel_rfl) rfl (by repeat (with_reducible first | exact hbD | exact Below.refl _ _ | refine bw_later ?_ _ | refine bw_alloc ?_ _ | refine bw_drew ?_ | refine bw_set ?_ (Nat.le_refl _) _ | refine bw_set ?_ ?_ _ | exact Nat.le_refl _ | exact later_size _ _ | refine Nat.le_trans ?_ (later_size _ _) | refine Nat.le_trans ?_ (size_alloc_le _ _) | refine Nat.le_trans ?_ (Nat.le_add_right _ _))) rfl (fun K hK => ?_); apply Exists.intro; refine ⟨fun x => ?_, ?_⟩; focus (go_simp; (try go_bits); (try go_simp); (try rfl))); (go_simp; (try go_bits); refine hK _ ?_; clear hK K); (refine step_read (i := 3) (by kernel_rfl) (by kernel_rfl) rfl (by repeat (with_reducible first | exact hbD | exact Below.refl _ _ | refine bw_later ?_ _ | refine bw_alloc ?_ _ | refine bw_drew ?_ | refine bw_set ?_ (Nat.le_refl _) _ | refine bw_set ?_ ?_ _ | exact Nat.le_refl _ | exact later_size _ _ | refine Nat.le_trans ?_ (later_size _ _) | refine Nat.le_trans ?_ (size_alloc_le _ _) | refine Nat.le_trans ?_ (Nat.le_add_right _ _))) rfl (fun K hK => ?_); apply Exists.intro; refine ⟨fun x => ?_, ?_⟩; focus (go_simp; (try go_bits); (try go_simp); (try rfl))); (go_simp; (try go_bits); refine hK _ ?_; clear hK K); (refine step_read (i := 5) (by kernel_rfl) (by kernel_rfl) rfl (by repeat (with_reducible first | exact hbD | exact Below.refl _ _ | refine bw_later ?_ _ | refine bw_alloc ?_ _ | refine bw_drew ?_ | refine bw_set ?_ (Nat.le_refl _) _ | refine bw_set ?_ ?_ _ | exact Nat.le_refl _ | exact later_size _ _ | refine Nat.le_trans ?_ (later_size _ _) | refine Nat.le_trans ?_ (size_alloc_le _ _) | refine Nat.le_trans ?_ (Nat.le_add_right _ _))) rfl (fun K hK => ?_); apply Exists.intro; refine ⟨fun x => ?_, ?_⟩; focus (go_simp; (try go_bits); (try go_simp); (try rfl))); (go_simp; (try go_bits); refine hK _ ?_; clear hK K); (refine step_read (i := 8) (by kernel_rfl) (by kernel_rfl) rfl (by repeat (with_reducible first | exact hbD | exact Below.refl _ _ | refine bw_later ?_ _ | refine bw_alloc ?_ _ | refine bw_drew ?_ | refine bw_set ?_ (Nat.le_refl _) _ | refine bw_set ?_ ?_ _ | exact Nat.le_refl _ | exact later_size _ _ | refine Nat.le_trans ?_ (later_size _ _) | refine Nat.le_trans ?_ (size_alloc_le _ _) | refine Nat.le_trans ?_ (Nat.le_add_right _ _))) rfl (fun K hK => ?_); apply Exists.intro; refine ⟨fun x => ?_, ?_⟩; focus (go_simp; (try go_bits); (try go_simp); (try rfl))); (go_simp; (try go_bits); refine hK _ ?_; clear hK K); (refine step_read (i := 9) (by kernel_rfl) (by kernel_rfl) rfl (by repeat (with_reducible first | exact hbD | exact Below.refl _ _ | refine bw_later ?_ _ | refine bw_alloc ?_ _ | refine bw_drew ?_ | refine bw_set ?_ (Nat.le_refl _) _ | refine bw_set ?_ ?_ _ | exact Nat.le_refl _ | exact later_size _ _ | refine Nat.le_trans ?_ (later_size _ _) | refine Nat.le_trans ?_ (size_alloc_le _ _) | refine Nat.le_trans ?_ (Nat.le_add_right _ _))) rfl (fun K hK => ?_); apply Exists.intro; refine ⟨fun x => ?_, ?_⟩; focus (go_simp; (try go_bits); (try go_simp); (try rfl))); (go_simp; (try go_bits); refine hK _ ?_; clear hK K); (refine step_read (i := 10) (by kernel_rfl) (by kernel_rfl) rfl (by repeat (with_reducible first | exact hbD | exact Below.refl _ _ | refine bw_later ?_ _ | refine bw_alloc ?_ _ | refine bw_drew ?_ | refine bw_set ?_ (Nat.le_refl _) _ | refine bw_set ?_ ?_ _ | exact Nat.le_refl _ | exact later_size _ _ | refine Nat.le_trans ?_ (later_size _ _) | refine Nat.le_trans ?_ (size_alloc_le _ _) | refine Nat.le_trans ?_ (Nat.le_add_right _ _))) rfl (fun K hK => ?_); apply Exists.intro; refine ⟨fun x => ?_, ?_⟩; focus (go_simp; (try go_bits); (try go_simp); (try rfl))); (go_simp; (try go_bits); refine hK _ ?_; clear hK K))
        refine step_app3 hKind (i0 := 0) (i4 := 4) (i9 := 6) (i10 := 7) (i14 := 11) (d0 := 33) (d4 := 37) (d9 := 39) (d10 := 40) (d14 := 44) (tk := 36) (tm := 43) (tx := 38) (k := k) (m := 0) (N1 := (l.take k).map (Value.int .i64)) (N2 := (l.drop k).map (Value.int .i64)) (X := #[.int .i64 z]) (by kernel_rfl) (by kernel_rfl) (by kernel_rfl) (by kernel_rfl) (by kernel_rfl) (by kernel_rfl) (by kernel_rfl) rfl rfl rfl rfl rfl (by decide) (by decide) rfl rfl rfl rfl rfl rfl rfl rfl rfl rfl rfl (by decide) (by simp) (fun ys => rfl) (fun a' w => by go_simp) (fun ys => rfl) (fun a' ha w => by have ha' : a'.tmps[38]?.getD undef = .int .i64 z := (by simpa [Act.eval] using ha); clear ha; go_simp; done) rfl hl1.out (hF1.out _ (by repeat (with_reducible first | exact hbD | exact Below.refl _ _ | refine bw_later ?_ _ | refine bw_alloc ?_ _ | refine bw_drew ?_ | refine bw_set ?_ (Nat.le_refl _) _ | refine bw_set ?_ ?_ _ | exact Nat.le_refl _ | exact later_size _ _ | refine Nat.le_trans ?_ (later_size _ _) | refine Nat.le_trans ?_ (size_alloc_le _ _) | refine Nat.le_trans ?_ (Nat.le_add_right _ _)))) (ints_one _) rfl hl2.out (hF2.out _ (by repeat (with_reducible first | exact hbD | exact Below.refl _ _ | refine bw_later ?_ _ | refine bw_alloc ?_ _ | refine bw_drew ?_ | refine bw_set ?_ (Nat.le_refl _) _ | refine bw_set ?_ ?_ _ | exact Nat.le_refl _ | exact later_size _ _ | refine Nat.le_trans ?_ (later_size _ _) | refine Nat.le_trans ?_ (size_alloc_le _ _) | refine Nat.le_trans ?_ (Nat.le_add_right _ _)))) (ints_one _) rfl (fun u hu => by simp at hu; subst hu; rfl) (by omega) (by repeat (with_reducible first | exact hbD | exact Below.refl _ _ | refine bw_later ?_ _ | refine bw_alloc ?_ _ | refine bw_drew ?_ | refine bw_set ?_ (Nat.le_refl _) _ | refine bw_set ?_ ?_ _ | exact Nat.le_refl _ | exact later_size _ _ | refine Nat.le_trans ?_ (later_size _ _) | refine Nat.le_trans ?_ (size_alloc_le _ _) | refine Nat.le_trans ?_ (Nat.le_add_right _ _))) (fun K hK u0 u4 u9 u10 v yv hown => ?_)
        rw [show k + 1 + (0) = k + 1 by omega, hins.out] at hown
        have hcap' := hown
        obtain ⟨A', c', e', hO'⟩ := OI_of_own hown
        obtain ⟨go', cap', rfl, hb1, hb2⟩ := own_slice hown (by omega)
        simp only [Value.slice.injEq, true_and] at e'
        obtain ⟨rfl, rfl⟩ := e'
        have hcap2 := own_cap hcap'
        have hO2 := Lib.hid (hO'.wide (Below.size (by repeat (with_reducible first | exact hbD | exact Below.refl _ _ | refine bw_later ?_ _ | refine bw_alloc ?_ _ | refine bw_drew ?_) : Below w.heap.size w _)) (Nat.le_refl _))
        clear hcap' hown hO'
        go_simp
        refine hK _ _ ?_
        clear hK K
        (refine step_one (i := 12) (by kernel_rfl) rfl (by repeat (with_reducible first | exact hbD | exact Below.refl _ _ | refine bw_later ?_ _ | refine bw_alloc ?_ _ | refine bw_drew ?_ | refine bw_set ?_ (Nat.le_refl _) _ | refine bw_set ?_ ?_ _ | exact Nat.le_refl _ | exact later_size _ _ | refine Nat.le_trans ?_ (later_size _ _) | refine Nat.le_trans ?_ (size_alloc_le _ _) | refine Nat.le_trans ?_ (Nat.le_add_right _ _))) (fun K hK => ?_); go_wp2; (try refine hK _ _ ?_); (try clear hK K))
        (refine step_end (by kernel_rfl) (by repeat (with_reducible first | exact hbD | exact Below.refl _ _ | refine bw_later ?_ _ | refine bw_alloc ?_ _ | refine bw_drew ?_ | refine bw_set ?_ (Nat.le_refl _) _ | refine bw_set ?_ ?_ _ | exact Nat.le_refl _ | exact later_size _ _ | refine Nat.le_trans ?_ (later_size _ _) | refine Nat.le_trans ?_ (size_alloc_le _ _) | refine Nat.le_trans ?_ (Nat.le_add_right _ _))) ?_)
        go_wp2
        go_ret
        exact ⟨go', cap', rfl, hO2.out, hcap2, hb2, (by repeat (with_reducible first | exact hbD | exact Below.refl _ _ | refine bw_later ?_ _ | refine bw_alloc ?_ _ | refine bw_drew ?_) : Below w.heap.size w _)⟩
end Go.Proofs.Ytnemamokjikdeaa
