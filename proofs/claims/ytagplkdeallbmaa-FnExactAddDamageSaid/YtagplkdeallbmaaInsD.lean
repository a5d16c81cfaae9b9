/- One damage put into a row of damages at its place: the library's function, whatever the room. -/
import Derived.Test.YtagplkdeallbmaaCopyN
import Derived.Test.YtagplkdeallbmaaApp3
import Derived.Lib.Overlaps
import Derived.Lib.AppendZerosOnto
import Derived.Deep.RegionLaw
namespace Go.Proofs.Ytagplkdeallbmaa
open Go Go.RowKit
theorem infoDam : (Try.prog.info? 59).map (fun i => (i.zero, i.size, i.bytes)) = some (some (.agg #[.int .i64 0, .int .i64 0, .int .i64 0]), 3, 24) := by kernel_rfl
theorem dam_overlaps (w : World) (gv g o la ca lb cb : Nat) (X : List Value) (cur : Array Value) (t : TypeId) (hv : w.heap[gv]? = some (.cells X.toArray 59 (0, 0))) (hg : w.heap[g]? = some (.cells cur t (0, 0))) (hc : 0 < cur.size) (hne : gv ≠ g) :
    (callFunc 65 #[.slice (some ⟨gv, 0, none⟩) la ca, .slice (some ⟨g, o, none⟩) lb cb]).run Try.prog w = .ok (.value (.bool false)) w := by
  obtain ⟨i0, hi, hz0, hz1, hz2⟩ := info_parts infoDam
  rw [run_callFunc_extern Try.func65 (by kernel_rfl) (by kernel_rfl) (by kernel_rfl) (e := Extern.SlicesOverlaps.overlaps #[43, 43] #[4]) (by kernel_rfl),
    Lib.run_overlaps_apart w 43 4 59 Try.underlying43 3 (fun w => by simp [sizeOf, typeInfo, hi, hz1]) ⟨gv, 0, none⟩ ⟨g, o, none⟩ la ca lb cb hne 59 t X.length cur.size (by simp [World.shape?, hv]) (by simp [World.shape?, hg]) (by omega) (by simp [World.frozen?, hv]) (by simp [World.frozen?, hv])]
  rfl
theorem hszDam : (Try.prog.info? 59).map (·.size) = some 3 := by
  obtain ⟨i0, hi, _, hz1, _⟩ := info_parts infoDam
  rw [hi]; simp [hz1]
set_option maxHeartbeats 4000000 in
theorem ins_end (w0 w : World) (g n c gv : Nat) (cs X : List Value) (hown : w.ownsRow w0.heap.size 59 3 (.slice (some ⟨g, 0, none⟩) n c) n cs) (hb : Below w0.heap.size w0 w)
    (hv : w.heap[gv]? = some (.cells X.toArray 59 (0, 0))) (hX : X.length = 3) (h1X : ∀ u ∈ X, u.oneCell' = true) (hn : n ≤ 1000) :
    Calls Try.prog 62 #[.slice (some ⟨g, 0, none⟩) n c, .int .i64 (n : Int), .slice (some ⟨gv, 0, none⟩) 1 1] w fun e w' => ∃ g' c', e = .returned (.slice (some ⟨g', 0, none⟩) (n + 1) c') ∧ w'.ownsRow w0.heap.size 59 3 (.slice (some ⟨g', 0, none⟩) (n + 1) c') (n + 1) (cs ++ X) ∧ Below w0.heap.size w0 w' := by
  obtain ⟨y, rfl⟩ := exists_later hb
  clear hb
  have hcn := own_cap hown
  have hsr : Hid (∀ j u, X[j]? = some u → (later w0 y).cell? ((⟨gv, 0, none⟩ : Addr).add j) = some u) := Lib.hid fun j u hu => by
    rw [addr_lit, Nat.zero_add, cell_of_row _ gv j _ _ (0, 0) hv]; simpa using hu
  have HX1 := Lib.hid h1X
  have HXl := Lib.hid hX
  clear hv hX h1X
  obtain ⟨i0, hi, hz0, hz1, hz2⟩ := info_parts infoDam
  have Hi := Lib.hid hi
  have Hz0 := Lib.hid hz0
  have Hz1 := Lib.hid hz1
  have Hz2 := Lib.hid hz2
  clear hi hz0 hz1 hz2
  by_cases hce : c = n
  all_goals
    go_enter Try.func62, Try.ntmps62
    go_wp2_with (at_builtin; refine push_many rfl _ _ _ rfl i0 _ 3 24 Try.underlying43 Hi.out Hz0.out Hz1.out Hz2.out rfl (by decide) _ _ _ rfl (by assumption) (w0 := w0) (by repeat (with_reducible first | exact hbD | exact Below.refl _ _ | refine bw_later ?_ _ | refine bw_alloc ?_ _ | refine bw_drew ?_ | refine bw_set ?_ (Nat.le_refl _) _ | refine bw_set ?_ ?_ _ | exact Nat.le_refl _ | exact later_size _ _ | refine Nat.le_trans ?_ (later_size _ _) | refine Nat.le_trans ?_ (size_alloc_le _ _) | refine Nat.le_trans ?_ (Nat.le_add_right _ _))) ⟨gv, 0, none⟩ 1 1 X rfl (by rw [HXl.out]) hsr.out HX1.out (by omega) (by decide) ?_; intro v1 y1 hown1 hk1)
    obtain ⟨g', c', rfl, -, -⟩ := own_slice hown1 (by omega)
    have HO := Lib.hid hown1
    clear hown1
    go_wp2
    go_ret
    exact ⟨_, _, rfl, HO.out, (by repeat (with_reducible first | exact hbD | exact Below.refl _ _ | refine bw_later ?_ _ | refine bw_alloc ?_ _ | refine bw_drew ?_ | refine bw_set ?_ (Nat.le_refl _) _ | refine bw_set ?_ ?_ _ | exact Nat.le_refl _ | exact later_size _ _ | refine Nat.le_trans ?_ (later_size _ _) | refine Nat.le_trans ?_ (size_alloc_le _ _) | refine Nat.le_trans ?_ (Nat.le_add_right _ _)))⟩
set_option maxHeartbeats 4000000 in
theorem ins_room (w0 w : World) (g n c i gv : Nat) (cs X : List Value) (hown : w.ownsRow w0.heap.size 59 3 (.slice (some ⟨g, 0, none⟩) n c) n cs) (hb : Below w0.heap.size w0 w)
    (hv : w.heap[gv]? = some (.cells X.toArray 59 (0, 0))) (hX : X.length = 3) (h1X : ∀ u ∈ X, u.oneCell' = true) (h1c : ∀ u ∈ cs, u.oneCell' = true) (hne : gv ≠ g) (hn : n ≤ 1000) (hi : i < n) (hc : n + 1 ≤ c) :
    Calls Try.prog 62 #[.slice (some ⟨g, 0, none⟩) n c, .int .i64 (i : Int), .slice (some ⟨gv, 0, none⟩) 1 1] w fun e w' => ∃ g' c', e = .returned (.slice (some ⟨g', 0, none⟩) (n + 1) c') ∧ w'.ownsRow w0.heap.size 59 3 (.slice (some ⟨g', 0, none⟩) (n + 1) c') (n + 1) (cs.take (i * 3) ++ X ++ cs.drop (i * 3)) ∧ Below w0.heap.size w0 w' := by
  obtain ⟨y, rfl⟩ := exists_later hb
  clear hb
  obtain ⟨hcl, hr⟩ := hown
  rcases hr with ⟨e, _⟩ | ⟨g', cap, cur, e, hgb, hgg, hcap, hmx, hsz, htk⟩
  · cases e
  simp only [Value.slice.injEq, Option.some.injEq, Addr.mk.injEq, and_true, true_and] at e
  obtain ⟨rfl, rfl⟩ := e
  have hov : Hid (∀ o la ca lb cb, (callFunc 65 #[.slice (some ⟨gv, 0, none⟩) la ca, .slice (some ⟨g, o, none⟩) lb cb]).run Try.prog (later w0 y) = .ok (.value (.bool false)) (later w0 y)) := Lib.hid fun o la ca lb cb => dam_overlaps _ gv g o la ca lb cb X cur _ hv hgg (by omega) hne
  obtain ⟨L, rfl⟩ : ∃ L : List Value, cur = L.toArray := ⟨cur.toList, by simp⟩
  have hLl : L.length = c * 3 := by simpa using hsz
  have hLt : L.take cs.length = cs := by rw [hcl]; simpa using htk
  have hgl : g < (later w0 y).heap.size := (Array.getElem?_eq_some_iff.1 hgg).1
  have hvl : gv < (later w0 y).heap.size := (Array.getElem?_eq_some_iff.1 hv).1
  have HG := Lib.hid hgg
  have HV := Lib.hid hv
  have hs1 : Hid (∀ j u, (cs.drop (i * 3))[j]? = some u → (later w0 y).cell? ((⟨g, i * 3, none⟩ : Addr).add j) = some u) := Lib.hid fun j u hu => by
    rw [addr_lit, cell_of_row _ g _ _ _ (0, 0) HG.out]
    rw [List.getElem?_drop, ← hLt, List.getElem?_take] at hu
    split at hu
    · simpa using hu
    · cases hu
  have Hfin : Hid ((splice (splice L (i * 3 + 3) (cs.drop (i * 3))) (i * 3) X).take ((n + 1) * 3) = cs.take (i * 3) ++ X ++ cs.drop (i * 3)) := Lib.hid (by
    rw [show (n + 1) * 3 = cs.length + 3 by omega]
    exact splice_open L cs X (i * 3) 3 (by omega) hLt hX (by omega))
  have Hl1 : Hid ((splice L (i * 3 + 3) (cs.drop (i * 3))).length = c * 3) := Lib.hid (by rw [length_splice _ _ _ (by rw [List.length_drop]; omega), hLl])
  have Hl2 : Hid ((splice (splice L (i * 3 + 3) (cs.drop (i * 3))) (i * 3) X).length = c * 3) := Lib.hid (by rw [length_splice _ _ _ (by rw [Hl1.out]; omega), Hl1.out])
  have Hd : Hid ((cs.drop (i * 3)).length = (n - i) * 3) := Lib.hid (by rw [List.length_drop]; omega)
  have H1d : Hid (∀ u ∈ cs.drop (i * 3), u.oneCell' = true) := Lib.hid fun u hu => h1c u (List.mem_of_mem_drop hu)
  have HX1 := Lib.hid h1X
  have HXl := Lib.hid hX
  have HLl := Lib.hid hLl
  clear hv hgg hX h1X h1c hLt hLl htk hsz
  have hz2 : ¬ ((i : Int) = (n : Int)) := by omega
  have hz3 : ¬ ((c : Int) < (n : Int) + 1) := by omega
  have hw1 : IntKind.i64.wrap ((i : Int) + 1) = (i : Int) + 1 := by rw [IntKind.wrap_i64]; omega
  have hb1 : (0 : Int) ≤ (i : Int) + 1 := by omega
  have hb2 : ¬ (c = i + 1) := by omega
  have hb4 : ¬ (c = i) := by omega
  have hb5 : (i : Int) ≤ (n : Int) := by omega
  have hb6 : (i : Int) ≤ (n : Int) + 1 := by omega
  have htn : ((i : Int) + 1).toNat = i + 1 := by omega
  go_enter Try.func62, Try.ntmps62
  go_wp2_with (simp only [hov.out])
  go_region_law (refine step_copy_many rfl _ _ _ _ rfl 59 3 Try.underlying43 hszDam g (i * 3 + 3) (n + 1 - (i + 1)) (c - (i + 1)) ⟨g, i * 3, none⟩ (n + 1 - i) (c - i) (by simp [Act.eval, Act.put, Nat.add_mul]) (by simp [Act.eval, Act.put]) L 59 HG.out (cs.drop (i * 3)) (by rw [Hd.out]; simp only [Nat.min_def]; split <;> omega) hs1.out (by rw [Hd.out, HLl.out]; omega) H1d.out (w0 := w0) (by repeat (with_reducible first | exact hbD | exact Below.refl _ _ | refine bw_later ?_ _ | refine bw_alloc ?_ _ | refine bw_drew ?_ | refine bw_set ?_ (Nat.le_refl _) _ | refine bw_set ?_ ?_ _ | exact Nat.le_refl _ | exact later_size _ _ | refine Nat.le_trans ?_ (later_size _ _) | refine Nat.le_trans ?_ (size_alloc_le _ _) | refine Nat.le_trans ?_ (Nat.le_add_right _ _))) hgb ?_; intro y2 hG2 hk2 hs2)
  have hgl2 : g < (later w0 y2).heap.size := Nat.lt_of_lt_of_le hgl hs2
  have hvl2 : gv < (later w0 y2).heap.size := Nat.lt_of_lt_of_le hvl hs2
  have hs3 : Hid (∀ j u, X[j]? = some u → (later w0 y2).cell? ((⟨gv, 0, none⟩ : Addr).add j) = some u) := Lib.hid fun j u hu => by
    rw [addr_lit, Nat.zero_add, cell_of_row _ gv j _ _ (0, 0) ((hk2 gv hvl hne).trans HV.out)]; simpa using hu
  go_wp2_with (with_reducible show wpList _ _ _ (⟨_, .call ⟨.builtin .copy, _, _⟩, _, _, _, _⟩ :: _) _ _; refine wpList_copy_many rfl _ _ _ _ rfl 59 3 Try.underlying43 hszDam g (i * 3) (n + 1 - i) (c - i) ⟨gv, 0, none⟩ 1 1 rfl rfl (splice L (i * 3 + 3) (cs.drop (i * 3))) 59 hG2.out X (by rw [HXl.out]; simp only [Nat.min_def]; split <;> omega) hs3.out (by rw [HXl.out, Hl1.out]; omega) HX1.out (w0 := w0) (by repeat (with_reducible first | exact hbD | exact Below.refl _ _ | refine bw_later ?_ _ | refine bw_alloc ?_ _ | refine bw_drew ?_ | refine bw_set ?_ (Nat.le_refl _) _ | refine bw_set ?_ ?_ _ | exact Nat.le_refl _ | exact later_size _ _ | refine Nat.le_trans ?_ (later_size _ _) | refine Nat.le_trans ?_ (size_alloc_le _ _) | refine Nat.le_trans ?_ (Nat.le_add_right _ _))) hgb ?_; intro y3 hG3 hk3 hs4)
  go_ret
  refine ⟨g, c, rfl, ⟨?_, .inr ⟨g, c, _, rfl, hgb, hG3.out, hc, hmx, by simpa using Hl2.out, by simpa using Hfin.out⟩⟩, (by repeat (with_reducible first | exact hbD | exact Below.refl _ _ | refine bw_later ?_ _ | refine bw_alloc ?_ _ | refine bw_drew ?_ | refine bw_set ?_ (Nat.le_refl _) _ | refine bw_set ?_ ?_ _ | exact Nat.le_refl _ | exact later_size _ _ | refine Nat.le_trans ?_ (later_size _ _) | refine Nat.le_trans ?_ (size_alloc_le _ _) | refine Nat.le_trans ?_ (Nat.le_add_right _ _)))⟩
  rw [← Hfin.out, List.length_take, Hl2.out]
  omega
theorem heap_alloc_old (w : World) (o : Obj) (k : Nat) (h : k < w.heap.size) : (w.alloc o).heap[k]? = w.heap[k]? := Below.heap_alloc w o k h
set_option maxHeartbeats 4000000 in
theorem ins_grow (w0 w : World) (g n c i gv : Nat) (cs X : List Value) (hown : w.ownsRow w0.heap.size 59 3 (.slice (some ⟨g, 0, none⟩) n c) n cs) (hb : Below w0.heap.size w0 w)
    (hv : w.heap[gv]? = some (.cells X.toArray 59 (0, 0))) (hX : X.length = 3) (h1X : ∀ u ∈ X, u.oneCell' = true) (h1c : ∀ u ∈ cs, u.oneCell' = true) (hn : n ≤ 1000) (hi : i < n) (hc : ¬ n + 1 ≤ c) :
    Calls Try.prog 62 #[.slice (some ⟨g, 0, none⟩) n c, .int .i64 (i : Int), .slice (some ⟨gv, 0, none⟩) 1 1] w fun e w' => ∃ g' c', e = .returned (.slice (some ⟨g', 0, none⟩) (n + 1) c') ∧ w'.ownsRow w0.heap.size 59 3 (.slice (some ⟨g', 0, none⟩) (n + 1) c') (n + 1) (cs.take (i * 3) ++ X ++ cs.drop (i * 3)) ∧ Below w0.heap.size w0 w' := by
  obtain ⟨y, rfl⟩ := exists_later hb
  clear hb
  have hcap := own_cap hown
  obtain rfl : c = n := by omega
  obtain ⟨hcl, hr⟩ := hown
  rcases hr with ⟨e, _⟩ | ⟨g', cap, cur, e, hgb, hgg, -, hmx, hsz, htk⟩
  · cases e
  simp only [Value.slice.injEq, Option.some.injEq, Addr.mk.injEq, and_true, true_and] at e
  obtain ⟨rfl, rfl⟩ := e
  obtain ⟨i0, hi0, hz0, hz1, hz2⟩ := info_parts infoDam
  have hgl : g < (later w0 y).heap.size := (Array.getElem?_eq_some_iff.1 hgg).1
  have hvl : gv < (later w0 y).heap.size := (Array.getElem?_eq_some_iff.1 hv).1
  have hcell : ∀ (W : World), W.heap[g]? = (later w0 y).heap[g]? → ∀ j u, cs[j]? = some u → W.cell? ⟨g, j, none⟩ = some u := fun W hW j u hu => by
    rw [cell_of_row W g j _ _ (0, 0) (hW.trans hgg)]
    rw [← htk, List.getElem?_take] at hu
    split at hu
    · simpa using hu
    · cases hu
  have hold : (Builtin.firstCells i0.size i (.slice (some ⟨g, 0, none⟩) i c)).run Try.prog (later w0 y).drew = .ok (cs.take (i * 3)).toArray (later w0 y).drew := by
    rw [hz1]
    refine run_firstCells_some (later w0 y).drew 3 i ⟨g, 0, none⟩ i c (cs.take (i * 3)) (by rw [List.length_take]; omega) (fun j v hj => ?_)
    rw [addr_lit, Nat.zero_add]
    rw [List.getElem?_take] at hj
    split at hj
    · exact hcell _ rfl j v hj
    · cases hj
  have hik : i + (c + 1 - i) = c + 1 := by omega
  have hkk : (c : Int) + 1 - (i : Int) = ((c + 1 - i : Nat) : Int) := by omega
  obtain ⟨G, hG⟩ : ∃ G, G = grownCap (later w0 y) (c + 1) c 59 := ⟨_, rfl⟩
  have hGn : c + 1 ≤ G := by rw [hG]; exact grownCap_ge _ _ _ _
  have hGm : G ≤ maxLen := by rw [hG]; exact grownCap_le_maxLen _ (c + 1) c _ (by unfold maxLen; omega)
  have hrz := fun ty => Lib.run_append_grow_zeros (later w0 y) 43 3 ty 59 i0 _ .i64 .i64 Try.underlying43 Try.underlying3 hi0 hz0 (some ⟨g, 0, none⟩) i c (cs.take (i * 3)) hold (c + 1 - i) (by omega) (by rw [hz1]; decide) (by omega) (by omega) (by rw [hz2]; omega) (by rw [hz2, hik]; exact growslice_fits (by omega) (by omega))
  rw [hik, ← hG, ← hkk] at hrz
  have hex : ∀ A : Array Value, ∃ Z : List Value, Z.toArray = A := fun A => ⟨A.toList, by simp⟩
  obtain ⟨Z, hZ⟩ := hex ((cs.take (i * 3)).toArray ++ Builtin.zeroCells (Value.agg #[.int .i64 0, .int .i64 0, .int .i64 0]).cells (c + 1 - i) ++ Builtin.zeroCells (Value.agg #[.int .i64 0, .int .i64 0, .int .i64 0]).cells (G - (c + 1)))
  clear hex
  have hti : (cs.take (i * 3)).length = i * 3 := by rw [List.length_take]; omega
  have hZl : Z.length = G * 3 := by
    have := congrArg Array.size hZ
    simp only [Array.size_append, size_zeroCells, List.size_toArray, hti] at this
    have e3 : (Value.agg #[.int .i64 0, .int .i64 0, .int .i64 0]).cells.size = 3 := by simp [Value.cells]
    rw [e3] at this
    omega
  have hZt : Z.take (i * 3) = cs.take (i * 3) := by
    have := congrArg Array.toList hZ
    simp only [Array.toList_append, List.append_assoc] at this
    rw [this]
    exact List.take_left' hti
  rw [← hZ] at hrz
  have hnew : ((later w0 y).drew.alloc (.cells Z.toArray 59)).heap[(later w0 y).heap.size]? = some (.cells Z.toArray 59 (0, 0)) := heap_alloc_new (later w0 y).drew _
  have holdk := fun k (hk : k < (later w0 y).heap.size) => heap_alloc_old (later w0 y).drew (.cells Z.toArray 59) k hk
  have hsz1 : ((later w0 y).drew.alloc (.cells Z.toArray 59)).heap.size = (later w0 y).heap.size + 1 := by show (Array.push _ _).size = _; rw [Array.size_push]; rfl
  have hgb2 : w0.heap.size ≤ (later w0 y).heap.size := later_size _ _
  obtain ⟨y1, hy1⟩ := exists_later (bw_alloc (bw_drew (later_below w0 y)) (.cells Z.toArray 59))
  rw [hy1] at hrz hnew holdk hsz1
  have hgs := hgl
  have hvs := hvl
  have hk1 : Hid (∀ k, k < (later w0 y).heap.size → (later w0 y1).heap[k]? = (later w0 y).heap[k]?) := Lib.hid holdk
  have HN := Lib.hid hnew
  have HS1 := Lib.hid hsz1
  have hg2 : (later w0 y).heap.size < (later w0 y1).heap.size := by rw [hsz1]; omega
  have Hrz := Lib.hid hrz
  clear hrz hnew holdk hsz1 hy1 hold hZ
  obtain ⟨g2, hg2e⟩ : ∃ g2, g2 = (later w0 y).heap.size := ⟨_, rfl⟩
  rw [← hg2e] at Hrz HN hk1 hgb2 hg2 hgs hvs
  have hne2 : gv ≠ g2 := by omega
  have hne3 : g ≠ g2 := by omega
  have hs1 : Hid (∀ j u, X[j]? = some u → (later w0 y1).cell? ((⟨gv, 0, none⟩ : Addr).add j) = some u) := Lib.hid fun j u hu => by
    rw [addr_lit, Nat.zero_add, cell_of_row _ gv j _ _ (0, 0) ((hk1.out gv hvs).trans hv)]; simpa using hu
  have hs2 : Hid (∀ W : World, W.heap[g]? = (later w0 y1).heap[g]? → ∀ j u, (cs.drop (i * 3))[j]? = some u → W.cell? ((⟨g, i * 3, none⟩ : Addr).add j) = some u) := Lib.hid fun W hW j u hu => by
    rw [addr_lit]
    rw [List.getElem?_drop] at hu
    exact hcell W (hW.trans (hk1.out g hgs)) _ u hu
  have Hd : Hid ((cs.drop (i * 3)).length = (c - i) * 3) := Lib.hid (by rw [List.length_drop]; omega)
  have Hl1 : Hid ((splice Z (i * 3) X).length = G * 3) := Lib.hid (by rw [length_splice _ _ _ (by omega), hZl])
  have Hl2 : Hid ((splice (splice Z (i * 3) X) (i * 3 + 3) (cs.drop (i * 3))).length = G * 3) := Lib.hid (by rw [length_splice _ _ _ (by rw [Hl1.out, Hd.out]; omega), Hl1.out])
  have Hfin : Hid ((splice (splice Z (i * 3) X) (i * 3 + 3) (cs.drop (i * 3))).take ((c + 1) * 3) = cs.take (i * 3) ++ X ++ cs.drop (i * 3)) := Lib.hid (by
    have h := splice_fill Z (cs.drop (i * 3)) X (i * 3) 3 hX (by rw [Hd.out]; omega)
    rw [Hd.out, show i * 3 + 3 + (c - i) * 3 = (c + 1) * 3 by omega, hZt] at h
    exact h)
  have H1d : Hid (∀ u ∈ cs.drop (i * 3), u.oneCell' = true) := Lib.hid fun u hu => h1c u (List.mem_of_mem_drop hu)
  have HX1 := Lib.hid h1X
  have HXl := Lib.hid hX
  have HZl := Lib.hid hZl
  have HGm := Lib.hid hGm
  have hG63 : G ≤ 9223372036854775807 := by unfold maxLen at hGm; omega
  clear hv hgg hX h1X h1c hZt hZl htk hsz hG hGm hcell hkk hik hti hi0 hz0 hz1 hz2 hg2e hmx hvs hvl hgl
  have hz2 : ¬ ((i : Int) = (c : Int)) := by omega
  have hz3 : (c : Int) < (c : Int) + 1 := by omega
  have hw1 : IntKind.i64.wrap ((i : Int) + 1) = (i : Int) + 1 := by rw [IntKind.wrap_i64]; omega
  have hb1 : (0 : Int) ≤ (i : Int) + 1 := by omega
  have hb2 : ¬ (G = i + 1) := by omega
  have hb3 : ¬ (G = i) := by omega
  have hb4 : ¬ (c = i) := by omega
  have hb5 : (i : Int) ≤ (c : Int) := by omega
  have hb6 : (i : Int) ≤ (c : Int) + 1 := by omega
  have htn : ((i : Int) + 1).toNat = i + 1 := by omega
  go_enter Try.func62, Try.ntmps62
  go_wp2_with (first
    | (at_builtin; refine Lib.wpList_append_run _ rfl _ _ _ _ rfl _ _ rfl rfl _ _ (Hrz.out _) ?_)
    | (with_reducible show wpList _ _ _ (⟨_, .call ⟨.builtin .copy, _, _⟩, _, _, _, _⟩ :: _) _ _; refine wpList_copy_many rfl _ _ _ _ rfl 59 3 Try.underlying43 hszDam g2 (i * 3) (c + 1 - i) (G - i) ⟨gv, 0, none⟩ 1 1 rfl rfl Z 59 HN.out X (by rw [HXl.out]; simp only [Nat.min_def]; split <;> omega) hs1.out (by rw [HXl.out, HZl.out]; omega) HX1.out (w0 := w0) (by repeat (with_reducible first | exact hbD | exact Below.refl _ _ | refine bw_later ?_ _ | refine bw_alloc ?_ _ | refine bw_drew ?_ | refine bw_set ?_ (Nat.le_refl _) _ | refine bw_set ?_ ?_ _ | exact Nat.le_refl _ | exact later_size _ _ | refine Nat.le_trans ?_ (later_size _ _) | refine Nat.le_trans ?_ (size_alloc_le _ _) | refine Nat.le_trans ?_ (Nat.le_add_right _ _))) hgb2 ?_; intro y2 hG2 hk2 hs4; have hq5 := hk2 g (by omega) hne3; have hs5 := Lib.hid (hs2.out (later w0 y2) hq5); clear hq5)
  )
  go_region_law (refine step_copy_many rfl _ _ _ _ rfl 59 3 Try.underlying43 hszDam g2 (i * 3 + 3) (c + 1 - (i + 1)) (G - (i + 1)) ⟨g, i * 3, none⟩ (c - i) (c - i) (by simp [Act.eval, Act.put, Nat.add_mul]) (by simp [Act.eval, Act.put]) (splice Z (i * 3) X) 59 hG2.out (cs.drop (i * 3)) (by rw [Hd.out]; simp only [Nat.min_def]; split <;> omega) hs5.out (by rw [Hd.out, Hl1.out]; omega) H1d.out (w0 := w0) (by repeat (with_reducible first | exact hbD | exact Below.refl _ _ | refine bw_later ?_ _ | refine bw_alloc ?_ _ | refine bw_drew ?_ | refine bw_set ?_ (Nat.le_refl _) _ | refine bw_set ?_ ?_ _ | exact Nat.le_refl _ | exact later_size _ _ | refine Nat.le_trans ?_ (later_size _ _) | refine Nat.le_trans ?_ (size_alloc_le _ _) | refine Nat.le_trans ?_ (Nat.le_add_right _ _))) hgb2 ?_; intro y3 hG3 hk3 hs6)
  go_wp2
  go_ret
  refine ⟨g2, G, rfl, ⟨?_, .inr ⟨g2, G, _, rfl, hgb2, hG3.out, by omega, HGm.out, by simpa using Hl2.out, by simpa using Hfin.out⟩⟩, (by repeat (with_reducible first | exact hbD | exact Below.refl _ _ | refine bw_later ?_ _ | refine bw_alloc ?_ _ | refine bw_drew ?_ | refine bw_set ?_ (Nat.le_refl _) _ | refine bw_set ?_ ?_ _ | exact Nat.le_refl _ | exact later_size _ _ | refine Nat.le_trans ?_ (later_size _ _) | refine Nat.le_trans ?_ (size_alloc_le _ _) | refine Nat.le_trans ?_ (Nat.le_add_right _ _)))⟩
  rw [← Hfin.out, List.length_take, Hl2.out]
  omega
/-- One damage put in at place i: whatever the room. -/
theorem insert_any (w0 w : World) (g n c i gv : Nat) (cs X : List Value) (hown : w.ownsRow w0.heap.size 59 3 (.slice (some ⟨g, 0, none⟩) n c) n cs) (hb : Below w0.heap.size w0 w)
    (hv : w.heap[gv]? = some (.cells X.toArray 59 (0, 0))) (hX : X.length = 3) (h1X : ∀ u ∈ X, u.oneCell' = true) (h1c : ∀ u ∈ cs, u.oneCell' = true) (hne : gv ≠ g) (hn : n ≤ 1000) (hi : i ≤ n) :
    Calls Try.prog 62 #[.slice (some ⟨g, 0, none⟩) n c, .int .i64 (i : Int), .slice (some ⟨gv, 0, none⟩) 1 1] w fun e w' => ∃ g' c', e = .returned (.slice (some ⟨g', 0, none⟩) (n + 1) c') ∧ w'.ownsRow w0.heap.size 59 3 (.slice (some ⟨g', 0, none⟩) (n + 1) c') (n + 1) (cs.take (i * 3) ++ X ++ cs.drop (i * 3)) ∧ Below w0.heap.size w0 w' := by
  rcases Nat.lt_or_ge i n with hlt | hge
  · by_cases hc : n + 1 ≤ c
    · exact ins_room w0 w g n c i gv cs X hown hb hv hX h1X h1c hne hn hlt hc
    · exact ins_grow w0 w g n c i gv cs X hown hb hv hX h1X h1c hn hlt hc
  · obtain rfl : i = n := by omega
    have e1 : cs.take (i * 3) = cs := List.take_of_length_le (by rw [hown.1]; exact Nat.le_refl _)
    have e2 : cs.drop (i * 3) = [] := List.drop_eq_nil_of_le (by rw [hown.1]; exact Nat.le_refl _)
    rw [e1, e2, List.append_nil]
    exact ins_end w0 w g i c gv cs X hown hb hv hX h1X hn
end Go.Proofs.Ytagplkdeallbmaa
