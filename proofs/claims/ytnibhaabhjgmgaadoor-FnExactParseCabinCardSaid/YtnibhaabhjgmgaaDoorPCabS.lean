/- The cabin with a text: the reference. -/
import Derived.Test.YtnibhaabhjgmgaaDoorPCab
namespace Go.Proofs.YtnibhaabhjgmgaaDoor
open Go.RowKit
theorem splitL_each (c : UInt8) : ∀ l : List UInt8, ∀ p ∈ splitL c l, p.length ≤ l.length
  | [], p, h => by simp [splitL] at h; subst h; simp
  | b :: r, p, h => by
    have ih := splitL_each c r
    unfold splitL at h
    split at h
    · rcases List.mem_cons.1 h with rfl | h
      · simp
      · have := ih p h
        simp; omega
    · split at h
      · rename_i q qs e
        rw [e] at ih
        rcases List.mem_cons.1 h with rfl | h
        · have := ih q (by simp)
          simp; omega
        · have := ih p (by simp [h])
          simp; omega
      · simp at h
        subst h
        simp
theorem splitS_each {s p : ByteArray} {c : UInt8} {k : Nat} (h : (splitS s c)[k]? = some p) : p.size ≤ s.size := by
  unfold splitS at h
  rw [List.getElem?_map] at h
  obtain ⟨l, hl, rfl⟩ := Option.map_eq_some_iff.1 h
  have := splitL_each c s.data.toList l (List.mem_of_getElem? hl)
  rw [mkB_size]
  have e : s.data.toList.length = s.size := by simp
  omega
theorem no_step {P : Nat → Prop} {k : Nat} (hx : ∀ j, j < k → ¬ P j) (h : ¬ P k) : ∀ j, j < k + 1 → ¬ P j := fun j hj => by
  rcases Nat.lt_or_ge j k with h' | h'
  · exact hx j h'
  · obtain rfl : j = k := by omega
    exact h
theorem Blk.drew {w : World} {b : Nat} {x0 x1 x2 x3 x4 : Value} (h : Blk w b x0 x1 x2 x3 x4) : Blk w.drew b x0 x1 x2 x3 x4 := h.keep (bw_drew (Below.refl _ _))
/-- Four of the words of a cabin's text. -/
structure Wd (w : World) (g e : Nat) (p q t u : ByteArray) : Prop where
  lt : g < w.heap.size
  c1 : w.cell? ⟨g, 1, none⟩ = some (.string p)
  c2 : w.cell? ⟨g, 2, none⟩ = some (.string q)
  c4 : w.cell? ⟨g, 4, none⟩ = some (.string t)
  ce : w.cell? ⟨g, e, none⟩ = some (.string u)
theorem Wd.keep {w w' : World} {g e : Nat} {p q t u : ByteArray} (h : Wd w g e p q t u) (hb : Below w.heap.size w w') : Wd w' g e p q t u :=
  ⟨Nat.lt_of_lt_of_le h.lt hb.size, (hb.cell (p := ⟨_, _, none⟩) h.lt).trans h.c1, (hb.cell (p := ⟨_, _, none⟩) h.lt).trans h.c2, (hb.cell (p := ⟨_, _, none⟩) h.lt).trans h.c4, (hb.cell (p := ⟨_, _, none⟩) h.lt).trans h.ce⟩
theorem getD_of {l : List ByteArray} {i : Nat} {p : ByteArray} (h : l[i]? = some p) : l.getD i ⟨#[]⟩ = p := by simp [List.getD, h]
theorem at_of {l : List ByteArray} {i : Nat} (h : i < l.length) : ∃ p, l[i]? = some p := ⟨_, List.getElem?_eq_getElem h⟩
theorem cabS_is {ws : List ByteArray} {n m : Nat} {p q t u : ByteArray} (hn : ws.length = n) (h1 : ws[1]? = some p) (h2 : ws[2]? = some q) (h4 : ws[4]? = some t) (he : ws[n - 2]? = some u) (hm : p.size = m + 1) (d : Int) :
    cabS ws d = ⟨(readF (p.extract 0 m)).1, (readF q).1, (readF t).1, d, (readF u).1⟩ := by
  unfold cabS
  rw [hn, getD_of h1, getD_of h2, getD_of h4, getD_of he, hm, Nat.add_sub_cancel]
set_option maxHeartbeats 4000000 in
set_option maxRecDepth 20000 in
theorem s_ParseCabin_any (s : ByteArray) (hsz : s.size ≤ 1048576) (w : World) : GC Tryd.prog 8 #[.string s] w (pcF s) := by
  unfold GC Gv R5.v
  have hsp := Lib.hid (fun w => split_any s 32 _ rfl hsz w)
  by_cases h60 : s.size ≤ 60
  rotate_left
  · have hfin := Lib.hid (pcF_long (s := s) (by omega))
    have h1 : decide ((60 : Int) < (s.size : Int)) = true := by simp; omega
    clear h60
    generalize splitS s 32 = ws at *
    go_enter Tryd.func8, Tryd.ntmps8
    go_wp2_with (go_at_call 15; refine Calls.mono (hsp.out _) ?_; rintro _ w1 ⟨g, cap, rfl, hg, hown, hb0⟩; have hb1 : Below w.heap.size w w1 := bw_trans (bw_alloc (Below.refl w.heap.size w) _) hb0; have hF := (Blk.new w (.int .i64 0) (.int .i64 0) (.int .i64 0) (.int .i64 0) (.int .i64 0) 26).keep hb0; have hbD := hb1; obtain ⟨rl, r0, r1, r2, r3, r4, rf⟩ := hF; clear hown hb0)
    exact bodyPost_ret (v := .tuple #[.agg #[.int .i64 0, .int .i64 0, .int .i64 0, .int .i64 0, .int .i64 0], .bool false]) (by simp [results, Tryd.results8, go_sem, r0, r1, r2, r3, r4]) rfl ⟨by rw [hfin.out]; try rfl, (by repeat (with_reducible first | exact hbD | exact Below.refl _ _ | refine bw_later ?_ _ | refine bw_alloc ?_ _ | refine bw_drew ?_ | refine bw_set ?_ (Nat.le_refl _) _ | refine bw_set ?_ ?_ _ | exact Nat.le_refl _ | exact later_size _ _ | refine Nat.le_trans ?_ (later_size _ _) | refine Nat.le_trans ?_ (size_alloc_le _ _) | refine Nat.le_trans ?_ (Nat.le_add_right _ _)))⟩
  have h1 : decide ((60 : Int) < (s.size : Int)) = false := by simp; omega
  have hbad := Lib.hid (pcF_words (s := s))
  have hst := Lib.hid (pcF_states (s := s))
  have hz : Hid (∀ (i : Nat) (p : ByteArray), (splitS s 32)[i]? = some p → p.size ≤ 1048576) := Lib.hid fun i p h => by have := splitS_each h; omega
  have hok0 := Lib.hid (fun r h e => pcF_some (s := s) (r := r) h e)
  clear h60
  generalize splitS s 32 = ws at *
  by_cases h9 : ws.length = 9
  · have hlen := h9
    clear h9
    obtain ⟨a1, k1'⟩ := at_of (l := ws) (i := 1) (by omega)
    obtain ⟨a2, k2'⟩ := at_of (l := ws) (i := 2) (by omega)
    obtain ⟨a4, k4'⟩ := at_of (l := ws) (i := 4) (by omega)
    obtain ⟨ae, ke'⟩ := at_of (l := ws) (i := 7) (by omega)
    have k1 := Lib.hid k1'
    have k2 := Lib.hid k2'
    have k4 := Lib.hid k4'
    have ke := Lib.hid ke'
    by_cases h2 : a1.size < 2
    · have hfin := Lib.hid (hbad.out (fun h => by rw [getD_of k1'] at h; omega))
      have h2' : decide ((a1.size : Int) < 2) = true := by simp; omega
      clear h2 k1' k2' k4' ke' k2 k4 ke
      go_enter Tryd.func8, Tryd.ntmps8
      go_wp2_with (go_at_call 15; refine Calls.mono (hsp.out _) ?_; rintro _ w1 ⟨g, cap, rfl, hg, hown, hb0⟩; have hb1 : Below w.heap.size w w1 := bw_trans (bw_alloc (Below.refl w.heap.size w) _) hb0; have hF := (Blk.new w (.int .i64 0) (.int .i64 0) (.int .i64 0) (.int .i64 0) (.int .i64 0) 26).keep hb0; have hbD := hb1; have hC := strs_cells hown; have d1 := hC 1 a1 k1.out; have gl := World.block_lt_of_cell? w1 _ d1; simp only at gl; obtain ⟨rl, r0, r1, r2, r3, r4, rf⟩ := hF; clear hC; clear hown hb0)
      exact bodyPost_ret (v := .tuple #[.agg #[.int .i64 0, .int .i64 0, .int .i64 0, .int .i64 0, .int .i64 0], .bool false]) (by simp [results, Tryd.results8, go_sem, r0, r1, r2, r3, r4]) rfl ⟨by rw [hfin.out]; try rfl, (by repeat (with_reducible first | exact hbD | exact Below.refl _ _ | refine bw_later ?_ _ | refine bw_alloc ?_ _ | refine bw_drew ?_ | refine bw_set ?_ (Nat.le_refl _) _ | refine bw_set ?_ ?_ _ | exact Nat.le_refl _ | exact later_size _ _ | refine Nat.le_trans ?_ (later_size _ _) | refine Nat.le_trans ?_ (size_alloc_le _ _) | refine Nat.le_trans ?_ (Nat.le_add_right _ _)))⟩
    have h2' : decide ((a1.size : Int) < 2) = false := by simp; omega
    obtain ⟨m, hm⟩ : ∃ m, a1.size = m + 1 := ⟨a1.size - 1, by omega⟩
    have z1 : (a1.extract 0 m).size ≤ 1048576 := by have := hz.out 1 a1 k1'; rw [ByteArray.size_extract]; omega
    have z2 : a2.size ≤ 1048576 := hz.out 2 a2 k2'
    have z4 : a4.size ≤ 1048576 := hz.out 4 a4 k4'
    have ze : ae.size ≤ 1048576 := hz.out 7 ae ke'
    have hcab := Lib.hid (cabS_is (n := 9) hlen k1' k2' k4' ke' hm)
    have hno : Hid ((∀ d : Int, 0 ≤ d → d ≤ 3 → ¬ (isCabin (⟨(readF (a1.extract 0 m)).1, (readF a2).1, (readF a4).1, d, (readF ae).1⟩ : R5) = true ∧ cabB (⟨(readF (a1.extract 0 m)).1, (readF a2).1, (readF a4).1, d, (readF ae).1⟩ : R5) = s)) → pcF s = (R5.zero, false)) := Lib.hid (fun h => hst.out (fun d h0 h1 => by rw [hcab.out d]; exact h d h0 h1))
    have hm1 : m ≤ 1048576 := by have := hz.out 1 a1 k1'; omega
    have iw : IntKind.i64.wrap ((m : Int) + 1 - 1) = (m : Int) := by rw [Go.IntWalk.i64_in _ (by omega)]; omega
    have i1 : (0 : Int) ≤ (m : Int) := by omega
    have i2 : (m : Int) ≤ (m : Int) + 1 := by omega
    have h2s : decide ((m : Int) + 1 < 2) = false := by simp; omega
    have h2t : 1 ≤ m := by omega
    clear h2 h2' k1' k2' k4' ke' hcab
    go_enter Tryd.func8, Tryd.ntmps8
    go_wp2_with (go_at_call 15; refine Calls.mono (hsp.out _) ?_; rintro _ w1 ⟨g, cap, rfl, hg, hown, hb0⟩; have hb1 : Below w.heap.size w w1 := bw_trans (bw_alloc (Below.refl w.heap.size w) _) hb0; have hF := (Blk.new w (.int .i64 0) (.int .i64 0) (.int .i64 0) (.int .i64 0) (.int .i64 0) 26).keep hb0; have hC := strs_cells hown; have HW := Lib.hid (show Wd w1 g 7 a1 a2 a4 ae from ⟨World.block_lt_of_cell? w1 _ (hC 1 a1 k1.out), hC 1 a1 k1.out, hC 2 a2 k2.out, hC 4 a4 k4.out, hC 7 ae ke.out⟩); have HF := Lib.hid hF; obtain ⟨gl, d1, d2, d4, de⟩ := HW.out; clear hC hF; clear hown hb0)
    have hbD : Below w1.heap.size w1 (w1.alloc (.cells #[.int .i64 0, .int .i64 0, .int .i64 0, .int .i64 0, .int .i64 0] 26)) := bw_alloc (Below.refl _ _) _
    have HC := Lib.hid (Blk.new w1 (.int .i64 0) (.int .i64 0) (.int .i64 0) (.int .i64 0) (.int .i64 0) 26)
    have hbc : w1.heap.size ≤ w1.heap.size := Nat.le_refl _
    have n1 : ¬ g = w1.heap.size := by have := HW.out.lt; omega
    have n2 : ¬ w1.heap.size = g := by omega
    have n3 : ¬ w.heap.size = w1.heap.size := by have := HF.out.lt; omega
    have n4 : ¬ w1.heap.size = w.heap.size := by omega
    clear gl d1 d2 d4 de
    generalize w1.alloc (.cells #[.int .i64 0, .int .i64 0, .int .i64 0, .int .i64 0, .int .i64 0] 26) = w0 at *
    refine wp_region_C (Below w1.heap.size w1) (by kernel_rfl) ?_
    replace hbD := bw_drew hbD
    replace HC := Lib.hid HC.out.drew
    generalize w0.drew = wn at *
    obtain ⟨rl, r0, r1, r2, r3, r4, rf⟩ := HF.out.keep hbD
    obtain ⟨gl, d1, d2, d4, de⟩ := HW.out.keep hbD
    obtain ⟨cl, c0, c1, c2, c3, c4, cf⟩ := HC.out
    obtain ⟨gl1, b1, b2, b4, be⟩ := HW.out
    ((refine step_read (i := 0) (by kernel_rfl) (by kernel_rfl) rfl (by repeat (with_reducible first | exact hbD | exact Below.refl _ _ | refine bw_later ?_ _ | refine bw_alloc ?_ _ | refine bw_drew ?_ | refine bw_set ?_ (Nat.le_refl _) _ | refine bw_set ?_ ?_ _ | exact Nat.le_refl _ | exact later_size _ _ | refine Nat.le_trans ?_ (later_size _ _) | refine Nat.le_trans ?_ (size_alloc_le _ _) | refine Nat.le_trans ?_ (Nat.le_add_right _ _))) rfl (fun K hK => ?_); apply Exists.intro; refine ⟨fun x => ?_, ?_⟩; focus (go_simp; (try go_bits); (try go_simp); (try rfl))); (go_simp; (try go_bits); refine hK _ ?_; clear hK K); (refine step_read (i := 1) (by kernel_rfl) (by kernel_rfl) rfl (by repeat (with_reducible first | exact hbD | exact Below.refl _ _ | refine bw_later ?_ _ | refine bw_alloc ?_ _ | refine bw_drew ?_ | refine bw_set ?_ (Nat.le_refl _) _ | refine bw_set ?_ ?_ _ | exact Nat.le_refl _ | exact later_size _ _ | refine Nat.le_trans ?_ (later_size _ _) | refine Nat.le_trans ?_ (size_alloc_le _ _) | refine Nat.le_trans ?_ (Nat.le_add_right _ _))) rfl (fun K hK => ?_); apply Exists.intro; refine ⟨fun x => ?_, ?_⟩; focus (go_simp; (try go_bits); (try go_simp); (try rfl))); (go_simp; (try go_bits); refine hK _ ?_; clear hK K); (refine step_read (i := 2) (by kernel_rfl) (by kernel_rfl) rfl (by repeat (with_reducible first | exact hbD | exact Below.refl _ _ | refine bw_later ?_ _ | refine bw_alloc ?_ _ | refine bw_drew ?_ | refine bw_set ?_ (Nat.le_refl _) _ | refine bw_set ?_ ?_ _ | exact Nat.le_refl _ | exact later_size _ _ | refine Nat.le_trans ?_ (later_size _ _) | refine Nat.le_trans ?_ (size_alloc_le _ _) | refine Nat.le_trans ?_ (Nat.le_add_right _ _))) rfl (fun K hK => ?_); apply Exists.intro; refine ⟨fun x => ?_, ?_⟩; focus (go_simp; (try go_bits); (try go_simp); (try rfl))); (go_simp; (try go_bits); refine hK _ ?_; clear hK K); (refine step_read (i := 3) (by kernel_rfl) (by kernel_rfl) rfl (by repeat (with_reducible first | exact hbD | exact Below.refl _ _ | refine bw_later ?_ _ | refine bw_alloc ?_ _ | refine bw_drew ?_ | refine bw_set ?_ (Nat.le_refl _) _ | refine bw_set ?_ ?_ _ | exact Nat.le_refl _ | exact later_size _ _ | refine Nat.le_trans ?_ (later_size _ _) | refine Nat.le_trans ?_ (size_alloc_le _ _) | refine Nat.le_trans ?_ (Nat.le_add_right _ _))) rfl (fun K hK => ?_); apply Exists.intro; refine ⟨fun x => ?_, ?_⟩; focus (go_simp; (try go_bits); (try go_simp); (try rfl))); (go_simp; (try go_bits); refine hK _ ?_; clear hK K); (refine step_read (i := 4) (by kernel_rfl) (by kernel_rfl) rfl (by repeat (with_reducible first | exact hbD | exact Below.refl _ _ | refine bw_later ?_ _ | refine bw_alloc ?_ _ | refine bw_drew ?_ | refine bw_set ?_ (Nat.le_refl _) _ | refine bw_set ?_ ?_ _ | exact Nat.le_refl _ | exact later_size _ _ | refine Nat.le_trans ?_ (later_size _ _) | refine Nat.le_trans ?_ (size_alloc_le _ _) | refine Nat.le_trans ?_ (Nat.le_add_right _ _))) rfl (fun K hK => ?_); apply Exists.intro; refine ⟨fun x => ?_, ?_⟩; focus (go_simp; (try go_bits); (try go_simp); (try rfl))); (go_simp; (try go_bits); refine hK _ ?_; clear hK K); (refine step_read (i := 5) (by kernel_rfl) (by kernel_rfl) rfl (by repeat (with_reducible first | exact hbD | exact Below.refl _ _ | refine bw_later ?_ _ | refine bw_alloc ?_ _ | refine bw_drew ?_ | refine bw_set ?_ (Nat.le_refl _) _ | refine bw_set ?_ ?_ _ | exact Nat.le_refl _ | exact later_size _ _ | refine Nat.le_trans ?_ (later_size _ _) | refine Nat.le_trans ?_ (size_alloc_le _ _) | refine Nat.le_trans ?_ (Nat.le_add_right _ _))) rfl (fun K hK => ?_); apply Exists.intro; refine ⟨fun x => ?_, ?_⟩; focus (go_simp; (try go_bits); (try go_simp); (try rfl))); (go_simp; (try go_bits); refine hK _ ?_; clear hK K); (refine step_read (i := 6) (by kernel_rfl) (by kernel_rfl) rfl (by repeat (with_reducible first | exact hbD | exact Below.refl _ _ | refine bw_later ?_ _ | refine bw_alloc ?_ _ | refine bw_drew ?_ | refine bw_set ?_ (Nat.le_refl _) _ | refine bw_set ?_ ?_ _ | exact Nat.le_refl _ | exact later_size _ _ | refine Nat.le_trans ?_ (later_size _ _) | refine Nat.le_trans ?_ (size_alloc_le _ _) | refine Nat.le_trans ?_ (Nat.le_add_right _ _))) rfl (fun K hK => ?_); apply Exists.intro; refine ⟨fun x => ?_, ?_⟩; focus (go_simp; (try go_bits); (try go_simp); (try rfl))); (go_simp; (try go_bits); refine hK _ ?_; clear hK K); (refine step_read (i := 7) (by kernel_rfl) (by kernel_rfl) rfl (by repeat (with_reducible first | exact hbD | exact Below.refl _ _ | refine bw_later ?_ _ | refine bw_alloc ?_ _ | refine bw_drew ?_ | refine bw_set ?_ (Nat.le_refl _) _ | refine bw_set ?_ ?_ _ | exact Nat.le_refl _ | exact later_size _ _ | refine Nat.le_trans ?_ (later_size _ _) | refine Nat.le_trans ?_ (size_alloc_le _ _) | refine Nat.le_trans ?_ (Nat.le_add_right _ _))) rfl (fun K hK => ?_); apply Exists.intro; refine ⟨fun x => ?_, ?_⟩; focus (go_simp; (try go_bits); (try go_simp); (try rfl))); (go_simp; (try go_bits); refine hK _ ?_; clear hK K); (refine step_read (i := 8) (by kernel_rfl) (by kernel_rfl) rfl (by repeat (with_reducible first | exact hbD | exact Below.refl _ _ | refine bw_later ?_ _ | refine bw_alloc ?_ _ | refine bw_drew ?_ | refine bw_set ?_ (Nat.le_refl _) _ | refine bw_set ?_ ?_ _ | exact Nat.le_refl _ | exact later_size _ _ | refine Nat.le_trans ?_ (later_size _ _) | refine Nat.le_trans ?_ (size_alloc_le _ _) | refine Nat.le_trans ?_ (Nat.le_add_right _ _))) rfl (fun K hK => ?_); apply Exists.intro; refine ⟨fun x => ?_, ?_⟩; focus (go_simp; (try go_bits); (try go_simp); (try rfl))); (go_simp; (try go_bits); refine hK _ ?_; clear hK K))
    clear gl1 b1 b2 b4 be
    (refine step_one (i := 9) (by kernel_rfl) rfl (by repeat (with_reducible first | exact hbD | exact Below.refl _ _ | refine bw_later ?_ _ | refine bw_alloc ?_ _ | refine bw_drew ?_ | refine bw_set ?_ (Nat.le_refl _) _ | refine bw_set ?_ ?_ _ | exact Nat.le_refl _ | exact later_size _ _ | refine Nat.le_trans ?_ (later_size _ _) | refine Nat.le_trans ?_ (size_alloc_le _ _) | refine Nat.le_trans ?_ (Nat.le_add_right _ _))) (fun K hK => ?_); go_wp2_with ((go_at_call 16; refine (read_any _ (by first | exact z1 | exact z2 | exact z4 | exact ze) _).on ?_; intro xq; replace hbD := bw_later (show Below w1.heap.size w1 _ from (by first | exact hbD | exact bw_set hbD hbc _)) xq; (first | (replace HC := Lib.hid (HC.out.later xq)) | (replace HC := Lib.hid ((HC.out.set0 _).later xq)) | (replace HC := Lib.hid ((HC.out.set1 _).later xq)) | (replace HC := Lib.hid ((HC.out.set2 _).later xq)) | (replace HC := Lib.hid ((HC.out.set3 _).later xq)) | (replace HC := Lib.hid ((HC.out.set4 _).later xq))); clear rl r0 r1 r2 r3 r4 rf gl d1 d2 d4 de cl c0 c1 c2 c3 c4 cf; generalize later _ xq = wn at *; obtain ⟨rl, r0, r1, r2, r3, r4, rf⟩ := HF.out.keep hbD; obtain ⟨gl, d1, d2, d4, de⟩ := HW.out.keep hbD; obtain ⟨cl, c0, c1, c2, c3, c4, cf⟩ := HC.out)); (try refine hK _ _ ?_); (try clear hK K))
    ((refine step_read (i := 10) (by kernel_rfl) (by kernel_rfl) rfl (by repeat (with_reducible first | exact hbD | exact Below.refl _ _ | refine bw_later ?_ _ | refine bw_alloc ?_ _ | refine bw_drew ?_ | refine bw_set ?_ (Nat.le_refl _) _ | refine bw_set ?_ ?_ _ | exact Nat.le_refl _ | exact later_size _ _ | refine Nat.le_trans ?_ (later_size _ _) | refine Nat.le_trans ?_ (size_alloc_le _ _) | refine Nat.le_trans ?_ (Nat.le_add_right _ _))) rfl (fun K hK => ?_); apply Exists.intro; refine ⟨fun x => ?_, ?_⟩; focus (go_simp; (try go_bits); (try go_simp); (try rfl))); (go_simp; (try go_bits); refine hK _ ?_; clear hK K); (refine step_read (i := 11) (by kernel_rfl) (by kernel_rfl) rfl (by repeat (with_reducible first | exact hbD | exact Below.refl _ _ | refine bw_later ?_ _ | refine bw_alloc ?_ _ | refine bw_drew ?_ | refine bw_set ?_ (Nat.le_refl _) _ | refine bw_set ?_ ?_ _ | exact Nat.le_refl _ | exact later_size _ _ | refine Nat.le_trans ?_ (later_size _ _) | refine Nat.le_trans ?_ (size_alloc_le _ _) | refine Nat.le_trans ?_ (Nat.le_add_right _ _))) rfl (fun K hK => ?_); apply Exists.intro; refine ⟨fun x => ?_, ?_⟩; focus (go_simp; (try go_bits); (try go_simp); (try rfl))); (go_simp; (try go_bits); refine hK _ ?_; clear hK K); (refine step_read (i := 12) (by kernel_rfl) (by kernel_rfl) rfl (by repeat (with_reducible first | exact hbD | exact Below.refl _ _ | refine bw_later ?_ _ | refine bw_alloc ?_ _ | refine bw_drew ?_ | refine bw_set ?_ (Nat.le_refl _) _ | refine bw_set ?_ ?_ _ | exact Nat.le_refl _ | exact later_size _ _ | refine Nat.le_trans ?_ (later_size _ _) | refine Nat.le_trans ?_ (size_alloc_le _ _) | refine Nat.le_trans ?_ (Nat.le_add_right _ _))) rfl (fun K hK => ?_); apply Exists.intro; refine ⟨fun x => ?_, ?_⟩; focus (go_simp; (try go_bits); (try go_simp); (try rfl))); (go_simp; (try go_bits); refine hK _ ?_; clear hK K); (refine step_read (i := 13) (by kernel_rfl) (by kernel_rfl) rfl (by repeat (with_reducible first | exact hbD | exact Below.refl _ _ | refine bw_later ?_ _ | refine bw_alloc ?_ _ | refine bw_drew ?_ | refine bw_set ?_ (Nat.le_refl _) _ | refine bw_set ?_ ?_ _ | exact Nat.le_refl _ | exact later_size _ _ | refine Nat.le_trans ?_ (later_size _ _) | refine Nat.le_trans ?_ (size_alloc_le _ _) | refine Nat.le_trans ?_ (Nat.le_add_right _ _))) rfl (fun K hK => ?_); apply Exists.intro; refine ⟨fun x => ?_, ?_⟩; focus (go_simp; (try go_bits); (try go_simp); (try rfl))); (go_simp; (try go_bits); refine hK _ ?_; clear hK K))
    (refine step_one (i := 14) (by kernel_rfl) rfl (by repeat (with_reducible first | exact hbD | exact Below.refl _ _ | refine bw_later ?_ _ | refine bw_alloc ?_ _ | refine bw_drew ?_ | refine bw_set ?_ (Nat.le_refl _) _ | refine bw_set ?_ ?_ _ | exact Nat.le_refl _ | exact later_size _ _ | refine Nat.le_trans ?_ (later_size _ _) | refine Nat.le_trans ?_ (size_alloc_le _ _) | refine Nat.le_trans ?_ (Nat.le_add_right _ _))) (fun K hK => ?_); go_wp2; (try refine hK _ _ ?_); (try clear hK K))
    (refine step_end (by kernel_rfl) (by repeat (with_reducible first | exact hbD | exact Below.refl _ _ | refine bw_later ?_ _ | refine bw_alloc ?_ _ | refine bw_drew ?_ | refine bw_set ?_ (Nat.le_refl _) _ | refine bw_set ?_ ?_ _ | exact Nat.le_refl _ | exact later_size _ _ | refine Nat.le_trans ?_ (later_size _ _) | refine Nat.le_trans ?_ (size_alloc_le _ _) | refine Nat.le_trans ?_ (Nat.le_add_right _ _))) ?_)
    go_wp2_with (go_at_call 16; refine (read_any _ (by first | exact z1 | exact z2 | exact z4 | exact ze) _).on ?_; intro xq; replace hbD := bw_later (show Below w1.heap.size w1 _ from (by first | exact hbD | exact bw_set hbD hbc _)) xq; (first | (replace HC := Lib.hid (HC.out.later xq)) | (replace HC := Lib.hid ((HC.out.set0 _).later xq)) | (replace HC := Lib.hid ((HC.out.set1 _).later xq)) | (replace HC := Lib.hid ((HC.out.set2 _).later xq)) | (replace HC := Lib.hid ((HC.out.set3 _).later xq)) | (replace HC := Lib.hid ((HC.out.set4 _).later xq))); clear rl r0 r1 r2 r3 r4 rf gl d1 d2 d4 de cl c0 c1 c2 c3 c4 cf; generalize later _ xq = wn at *; obtain ⟨rl, r0, r1, r2, r3, r4, rf⟩ := HF.out.keep hbD; obtain ⟨gl, d1, d2, d4, de⟩ := HW.out.keep hbD; obtain ⟨cl, c0, c1, c2, c3, c4, cf⟩ := HC.out)
    clear rl r0 r1 r2 r3 r4 rf gl d1 d2 d4 de cl c0 c1 c2 c3 c4 cf
    go_loopw [7] (fun i wr => ∃ k : Nat, k ≤ 4 ∧ i = .int .i64 (k : Int) ∧ Below w1.heap.size w1 wr ∧ (∃ v3, Hid (Blk wr w1.heap.size (.int .i64 (readF (a1.extract 0 m)).1) (.int .i64 (readF a2).1) (.int .i64 (readF a4).1) v3 (.int .i64 (readF ae).1))) ∧ Hid (∀ j : Nat, j < k → ¬ (isCabin (⟨(readF (a1.extract 0 m)).1, (readF a2).1, (readF a4).1, (j : Int), (readF ae).1⟩ : R5) = true ∧ cabB (⟨(readF (a1.extract 0 m)).1, (readF a2).1, (readF a4).1, (j : Int), (readF ae).1⟩ : R5) = s))) (fun i _ => 4 - (intOf i).toNat)
    case atStart => exact ⟨0, by omega, rfl, bw_set hbD hbc _, ⟨_, Lib.hid (HC.out.set4 _)⟩, Lib.hid fun j hj => absurd hj (by omega)⟩
    clear hbD HC
    case round =>
      obtain ⟨k, hk, rfl, hbD, ⟨v3, HC⟩, hx⟩ := hrel
      obtain ⟨rl, r0, r1, r2, r3, r4, rf⟩ := HF.out.keep hbD
      obtain ⟨gl, d1, d2, d4, de⟩ := HW.out.keep hbD
      obtain ⟨cl, c0, c1, c2, c3, c4, cf⟩ := HC.out
      by_cases hlt : k < 4
      · cases hok : isCabin (⟨(readF (a1.extract 0 m)).1, (readF a2).1, (readF a4).1, (k : Int), (readF ae).1⟩ : R5)
        · have hx1 := Lib.hid (no_step (P := fun j => isCabin (⟨(readF (a1.extract 0 m)).1, (readF a2).1, (readF a4).1, (j : Int), (readF ae).1⟩ : R5) = true ∧ cabB (⟨(readF (a1.extract 0 m)).1, (readF a2).1, (readF a4).1, (j : Int), (readF ae).1⟩ : R5) = s) hx.out (by rw [hok]; simp))
          go_wp2_with (first
                | (go_at_call 11; refine (l5One_any (⟨(readF (a1.extract 0 m)).1, (readF a2).1, (readF a4).1, (k : Int), (readF ae).1⟩ : R5) _).on ?_; intro xq; replace hbD := bw_later (show Below w1.heap.size w1 _ from (by first | exact hbD | exact bw_set hbD hbc _)) xq; (first | (replace HC := Lib.hid (HC.out.later xq)) | (replace HC := Lib.hid ((HC.out.set0 _).later xq)) | (replace HC := Lib.hid ((HC.out.set1 _).later xq)) | (replace HC := Lib.hid ((HC.out.set2 _).later xq)) | (replace HC := Lib.hid ((HC.out.set3 _).later xq)) | (replace HC := Lib.hid ((HC.out.set4 _).later xq))); clear rl r0 r1 r2 r3 r4 rf gl d1 d2 d4 de cl c0 c1 c2 c3 c4 cf; generalize later _ xq = wn at *; obtain ⟨rl, r0, r1, r2, r3, r4, rf⟩ := HF.out.keep hbD; obtain ⟨gl, d1, d2, d4, de⟩ := HW.out.keep hbD; obtain ⟨cl, c0, c1, c2, c3, c4, cf⟩ := HC.out))
          go_roundw
          case rel => exact ⟨k + 1, by omega, by go_num, hbD, ⟨_, HC⟩, hx1⟩
          case measure => simp [intOf]; omega
        · cases hq : ((cabB (⟨(readF (a1.extract 0 m)).1, (readF a2).1, (readF a4).1, (k : Int), (readF ae).1⟩ : R5)).toList == s.toList)
          · have hx1 := Lib.hid (no_step (P := fun j => isCabin (⟨(readF (a1.extract 0 m)).1, (readF a2).1, (readF a4).1, (j : Int), (readF ae).1⟩ : R5) = true ∧ cabB (⟨(readF (a1.extract 0 m)).1, (readF a2).1, (readF a4).1, (j : Int), (readF ae).1⟩ : R5) = s) hx.out (by rw [str_eq] at hq; simp at hq; exact fun h => hq h.2))
            go_wp2_with (first
                | (go_at_call 11; refine (l5One_any (⟨(readF (a1.extract 0 m)).1, (readF a2).1, (readF a4).1, (k : Int), (readF ae).1⟩ : R5) _).on ?_; intro xq; replace hbD := bw_later (show Below w1.heap.size w1 _ from (by first | exact hbD | exact bw_set hbD hbc _)) xq; (first | (replace HC := Lib.hid (HC.out.later xq)) | (replace HC := Lib.hid ((HC.out.set0 _).later xq)) | (replace HC := Lib.hid ((HC.out.set1 _).later xq)) | (replace HC := Lib.hid ((HC.out.set2 _).later xq)) | (replace HC := Lib.hid ((HC.out.set3 _).later xq)) | (replace HC := Lib.hid ((HC.out.set4 _).later xq))); clear rl r0 r1 r2 r3 r4 rf gl d1 d2 d4 de cl c0 c1 c2 c3 c4 cf; generalize later _ xq = wn at *; obtain ⟨rl, r0, r1, r2, r3, r4, rf⟩ := HF.out.keep hbD; obtain ⟨gl, d1, d2, d4, de⟩ := HW.out.keep hbD; obtain ⟨cl, c0, c1, c2, c3, c4, cf⟩ := HC.out)
                | (go_at_call 12; refine (s_cabinText_any (⟨(readF (a1.extract 0 m)).1, (readF a2).1, (readF a4).1, (k : Int), (readF ae).1⟩ : R5) hok _).on ?_; intro xq; replace hbD := bw_later (show Below w1.heap.size w1 _ from (by first | exact hbD | exact bw_set hbD hbc _)) xq; (first | (replace HC := Lib.hid (HC.out.later xq)) | (replace HC := Lib.hid ((HC.out.set0 _).later xq)) | (replace HC := Lib.hid ((HC.out.set1 _).later xq)) | (replace HC := Lib.hid ((HC.out.set2 _).later xq)) | (replace HC := Lib.hid ((HC.out.set3 _).later xq)) | (replace HC := Lib.hid ((HC.out.set4 _).later xq))); clear rl r0 r1 r2 r3 r4 rf gl d1 d2 d4 de cl c0 c1 c2 c3 c4 cf; generalize later _ xq = wn at *; obtain ⟨rl, r0, r1, r2, r3, r4, rf⟩ := HF.out.keep hbD; obtain ⟨gl, d1, d2, d4, de⟩ := HW.out.keep hbD; obtain ⟨cl, c0, c1, c2, c3, c4, cf⟩ := HC.out))
            go_roundw
            case rel => exact ⟨k + 1, by omega, by go_num, hbD, ⟨_, HC⟩, hx1⟩
            case measure => simp [intOf]; omega
          · have hfin := Lib.hid (hok0.out _ hok (by rw [str_eq] at hq; simpa using hq))
            go_wp2_with (first
                | (go_at_call 11; refine (l5One_any (⟨(readF (a1.extract 0 m)).1, (readF a2).1, (readF a4).1, (k : Int), (readF ae).1⟩ : R5) _).on ?_; intro xq; replace hbD := bw_later (show Below w1.heap.size w1 _ from (by first | exact hbD | exact bw_set hbD hbc _)) xq; (first | (replace HC := Lib.hid (HC.out.later xq)) | (replace HC := Lib.hid ((HC.out.set0 _).later xq)) | (replace HC := Lib.hid ((HC.out.set1 _).later xq)) | (replace HC := Lib.hid ((HC.out.set2 _).later xq)) | (replace HC := Lib.hid ((HC.out.set3 _).later xq)) | (replace HC := Lib.hid ((HC.out.set4 _).later xq))); clear rl r0 r1 r2 r3 r4 rf gl d1 d2 d4 de cl c0 c1 c2 c3 c4 cf; generalize later _ xq = wn at *; obtain ⟨rl, r0, r1, r2, r3, r4, rf⟩ := HF.out.keep hbD; obtain ⟨gl, d1, d2, d4, de⟩ := HW.out.keep hbD; obtain ⟨cl, c0, c1, c2, c3, c4, cf⟩ := HC.out)
                | (go_at_call 12; refine (s_cabinText_any (⟨(readF (a1.extract 0 m)).1, (readF a2).1, (readF a4).1, (k : Int), (readF ae).1⟩ : R5) hok _).on ?_; intro xq; replace hbD := bw_later (show Below w1.heap.size w1 _ from (by first | exact hbD | exact bw_set hbD hbc _)) xq; (first | (replace HC := Lib.hid (HC.out.later xq)) | (replace HC := Lib.hid ((HC.out.set0 _).later xq)) | (replace HC := Lib.hid ((HC.out.set1 _).later xq)) | (replace HC := Lib.hid ((HC.out.set2 _).later xq)) | (replace HC := Lib.hid ((HC.out.set3 _).later xq)) | (replace HC := Lib.hid ((HC.out.set4 _).later xq))); clear rl r0 r1 r2 r3 r4 rf gl d1 d2 d4 de cl c0 c1 c2 c3 c4 cf; generalize later _ xq = wn at *; obtain ⟨rl, r0, r1, r2, r3, r4, rf⟩ := HF.out.keep hbD; obtain ⟨gl, d1, d2, d4, de⟩ := HW.out.keep hbD; obtain ⟨cl, c0, c1, c2, c3, c4, cf⟩ := HC.out))
            replace hbD := bw_trans hb1 hbD
            exact bodyPost_ret (v := .tuple #[.agg #[.int .i64 (readF (a1.extract 0 m)).1, .int .i64 (readF a2).1, .int .i64 (readF a4).1, .int .i64 (k : Int), .int .i64 (readF ae).1], .bool true]) (by simp [results, Tryd.results8, go_sem, r0, r1, r2, r3, r4]) rfl ⟨by rw [hfin.out]; try rfl, (by repeat (with_reducible first | exact hbD | exact Below.refl _ _ | refine bw_later ?_ _ | refine bw_alloc ?_ _ | refine bw_drew ?_ | refine bw_set ?_ (Nat.le_refl _) _ | refine bw_set ?_ ?_ _ | exact Nat.le_refl _ | exact later_size _ _ | refine Nat.le_trans ?_ (later_size _ _) | refine Nat.le_trans ?_ (size_alloc_le _ _) | refine Nat.le_trans ?_ (Nat.le_add_right _ _)))⟩
      · obtain rfl : k = 4 := by omega
        have hfin := Lib.hid (hno.out fun d h0 h1 => by
          have := hx.out d.toNat (by omega)
          rwa [Int.toNat_of_nonneg h0] at this)
        go_wp2
        replace hbD := bw_trans hb1 hbD
        exact bodyPost_ret (v := .tuple #[.agg #[.int .i64 0, .int .i64 0, .int .i64 0, .int .i64 0, .int .i64 0], .bool false]) (by simp [results, Tryd.results8, go_sem, r0, r1, r2, r3, r4]) rfl ⟨by rw [hfin.out]; try rfl, (by repeat (with_reducible first | exact hbD | exact Below.refl _ _ | refine bw_later ?_ _ | refine bw_alloc ?_ _ | refine bw_drew ?_ | refine bw_set ?_ (Nat.le_refl _) _ | refine bw_set ?_ ?_ _ | exact Nat.le_refl _ | exact later_size _ _ | refine Nat.le_trans ?_ (later_size _ _) | refine Nat.le_trans ?_ (size_alloc_le _ _) | refine Nat.le_trans ?_ (Nat.le_add_right _ _)))⟩
  by_cases h10 : ws.length = 10
  rotate_left
  · have hfin := Lib.hid (hbad.out (fun h => by omega))
    have e9 : ((ws.length : Int) == 9) = false := by rw [beq_eq_false_iff_ne]; omega
    have e9' : ((ws.length : Int) != 9) = true := by rw [bne_iff_ne]; omega
    have e10 : ((ws.length : Int) == 10) = false := by rw [beq_eq_false_iff_ne]; omega
    have e10' : ((ws.length : Int) != 10) = true := by rw [bne_iff_ne]; omega
    clear h9 h10
    go_enter Tryd.func8, Tryd.ntmps8
    go_wp2_with (go_at_call 15; refine Calls.mono (hsp.out _) ?_; rintro _ w1 ⟨g, cap, rfl, hg, hown, hb0⟩; have hb1 : Below w.heap.size w w1 := bw_trans (bw_alloc (Below.refl w.heap.size w) _) hb0; have hF := (Blk.new w (.int .i64 0) (.int .i64 0) (.int .i64 0) (.int .i64 0) (.int .i64 0) 26).keep hb0; have hbD := hb1; obtain ⟨rl, r0, r1, r2, r3, r4, rf⟩ := hF; clear hown hb0)
    exact bodyPost_ret (v := .tuple #[.agg #[.int .i64 0, .int .i64 0, .int .i64 0, .int .i64 0, .int .i64 0], .bool false]) (by simp [results, Tryd.results8, go_sem, r0, r1, r2, r3, r4]) rfl ⟨by rw [hfin.out]; try rfl, (by repeat (with_reducible first | exact hbD | exact Below.refl _ _ | refine bw_later ?_ _ | refine bw_alloc ?_ _ | refine bw_drew ?_ | refine bw_set ?_ (Nat.le_refl _) _ | refine bw_set ?_ ?_ _ | exact Nat.le_refl _ | exact later_size _ _ | refine Nat.le_trans ?_ (later_size _ _) | refine Nat.le_trans ?_ (size_alloc_le _ _) | refine Nat.le_trans ?_ (Nat.le_add_right _ _)))⟩
  · have hlen := h10
    clear h9 h10
    obtain ⟨a1, k1'⟩ := at_of (l := ws) (i := 1) (by omega)
    obtain ⟨a2, k2'⟩ := at_of (l := ws) (i := 2) (by omega)
    obtain ⟨a4, k4'⟩ := at_of (l := ws) (i := 4) (by omega)
    obtain ⟨ae, ke'⟩ := at_of (l := ws) (i := 8) (by omega)
    have k1 := Lib.hid k1'
    have k2 := Lib.hid k2'
    have k4 := Lib.hid k4'
    have ke := Lib.hid ke'
    by_cases h2 : a1.size < 2
    · have hfin := Lib.hid (hbad.out (fun h => by rw [getD_of k1'] at h; omega))
      have h2' : decide ((a1.size : Int) < 2) = true := by simp; omega
      clear h2 k1' k2' k4' ke' k2 k4 ke
      go_enter Tryd.func8, Tryd.ntmps8
      go_wp2_with (go_at_call 15; refine Calls.mono (hsp.out _) ?_; rintro _ w1 ⟨g, cap, rfl, hg, hown, hb0⟩; have hb1 : Below w.heap.size w w1 := bw_trans (bw_alloc (Below.refl w.heap.size w) _) hb0; have hF := (Blk.new w (.int .i64 0) (.int .i64 0) (.int .i64 0) (.int .i64 0) (.int .i64 0) 26).keep hb0; have hbD := hb1; have hC := strs_cells hown; have d1 := hC 1 a1 k1.out; have gl := World.block_lt_of_cell? w1 _ d1; simp only at gl; obtain ⟨rl, r0, r1, r2, r3, r4, rf⟩ := hF; clear hC; clear hown hb0)
      exact bodyPost_ret (v := .tuple #[.agg #[.int .i64 0, .int .i64 0, .int .i64 0, .int .i64 0, .int .i64 0], .bool false]) (by simp [results, Tryd.results8, go_sem, r0, r1, r2, r3, r4]) rfl ⟨by rw [hfin.out]; try rfl, (by repeat (with_reducible first | exact hbD | exact Below.refl _ _ | refine bw_later ?_ _ | refine bw_alloc ?_ _ | refine bw_drew ?_ | refine bw_set ?_ (Nat.le_refl _) _ | refine bw_set ?_ ?_ _ | exact Nat.le_refl _ | exact later_size _ _ | refine Nat.le_trans ?_ (later_size _ _) | refine Nat.le_trans ?_ (size_alloc_le _ _) | refine Nat.le_trans ?_ (Nat.le_add_right _ _)))⟩
    have h2' : decide ((a1.size : Int) < 2) = false := by simp; omega
    obtain ⟨m, hm⟩ : ∃ m, a1.size = m + 1 := ⟨a1.size - 1, by omega⟩
    have z1 : (a1.extract 0 m).size ≤ 1048576 := by have := hz.out 1 a1 k1'; rw [ByteArray.size_extract]; omega
    have z2 : a2.size ≤ 1048576 := hz.out 2 a2 k2'
    have z4 : a4.size ≤ 1048576 := hz.out 4 a4 k4'
    have ze : ae.size ≤ 1048576 := hz.out 8 ae ke'
    have hcab := Lib.hid (cabS_is (n := 10) hlen k1' k2' k4' ke' hm)
    have hno : Hid ((∀ d : Int, 0 ≤ d → d ≤ 3 → ¬ (isCabin (⟨(readF (a1.extract 0 m)).1, (readF a2).1, (readF a4).1, d, (readF ae).1⟩ : R5) = true ∧ cabB (⟨(readF (a1.extract 0 m)).1, (readF a2).1, (readF a4).1, d, (readF ae).1⟩ : R5) = s)) → pcF s = (R5.zero, false)) := Lib.hid (fun h => hst.out (fun d h0 h1 => by rw [hcab.out d]; exact h d h0 h1))
    have hm1 : m ≤ 1048576 := by have := hz.out 1 a1 k1'; omega
    have iw : IntKind.i64.wrap ((m : Int) + 1 - 1) = (m : Int) := by rw [Go.IntWalk.i64_in _ (by omega)]; omega
    have i1 : (0 : Int) ≤ (m : Int) := by omega
    have i2 : (m : Int) ≤ (m : Int) + 1 := by omega
    have h2s : decide ((m : Int) + 1 < 2) = false := by simp; omega
    have h2t : 1 ≤ m := by omega
    clear h2 h2' k1' k2' k4' ke' hcab
    go_enter Tryd.func8, Tryd.ntmps8
    go_wp2_with (go_at_call 15; refine Calls.mono (hsp.out _) ?_; rintro _ w1 ⟨g, cap, rfl, hg, hown, hb0⟩; have hb1 : Below w.heap.size w w1 := bw_trans (bw_alloc (Below.refl w.heap.size w) _) hb0; have hF := (Blk.new w (.int .i64 0) (.int .i64 0) (.int .i64 0) (.int .i64 0) (.int .i64 0) 26).keep hb0; have hC := strs_cells hown; have HW := Lib.hid (show Wd w1 g 8 a1 a2 a4 ae from ⟨World.block_lt_of_cell? w1 _ (hC 1 a1 k1.out), hC 1 a1 k1.out, hC 2 a2 k2.out, hC 4 a4 k4.out, hC 8 ae ke.out⟩); have HF := Lib.hid hF; obtain ⟨gl, d1, d2, d4, de⟩ := HW.out; clear hC hF; clear hown hb0)
    have hbD : Below w1.heap.size w1 (w1.alloc (.cells #[.int .i64 0, .int .i64 0, .int .i64 0, .int .i64 0, .int .i64 0] 26)) := bw_alloc (Below.refl _ _) _
    have HC := Lib.hid (Blk.new w1 (.int .i64 0) (.int .i64 0) (.int .i64 0) (.int .i64 0) (.int .i64 0) 26)
    have hbc : w1.heap.size ≤ w1.heap.size := Nat.le_refl _
    have n1 : ¬ g = w1.heap.size := by have := HW.out.lt; omega
    have n2 : ¬ w1.heap.size = g := by omega
    have n3 : ¬ w.heap.size = w1.heap.size := by have := HF.out.lt; omega
    have n4 : ¬ w1.heap.size = w.heap.size := by omega
    clear gl d1 d2 d4 de
    generalize w1.alloc (.cells #[.int .i64 0, .int .i64 0, .int .i64 0, .int .i64 0, .int .i64 0] 26) = w0 at *
    refine wp_region_C (Below w1.heap.size w1) (by kernel_rfl) ?_
    replace hbD := bw_drew hbD
    replace HC := Lib.hid HC.out.drew
    generalize w0.drew = wn at *
    obtain ⟨rl, r0, r1, r2, r3, r4, rf⟩ := HF.out.keep hbD
    obtain ⟨gl, d1, d2, d4, de⟩ := HW.out.keep hbD
    obtain ⟨cl, c0, c1, c2, c3, c4, cf⟩ := HC.out
    obtain ⟨gl1, b1, b2, b4, be⟩ := HW.out
    ((refine step_read (i := 0) (by kernel_rfl) (by kernel_rfl) rfl (by repeat (with_reducible first | exact hbD | exact Below.refl _ _ | refine bw_later ?_ _ | refine bw_alloc ?_ _ | refine bw_drew ?_ | refine bw_set ?_ (Nat.le_refl _) _ | refine bw_set ?_ ?_ _ | exact Nat.le_refl _ | exact later_size _ _ | refine Nat.le_trans ?_ (later_size _ _) | refine Nat.le_trans ?_ (size_alloc_le _ _) | refine Nat.le_trans ?_ (Nat.le_add_right _ _))) rfl (fun K hK => ?_); apply Exists.intro; refine ⟨fun x => ?_, ?_⟩; focus (go_simp; (try go_bits); (try go_simp); (try rfl))); (go_simp; (try go_bits); refine hK _ ?_; clear hK K); (refine step_read (i := 1) (by kernel_rfl) (by kernel_rfl) rfl (by repeat (with_reducible first | exact hbD | exact Below.refl _ _ | refine bw_later ?_ _ | refine bw_alloc ?_ _ | refine bw_drew ?_ | refine bw_set ?_ (Nat.le_refl _) _ | refine bw_set ?_ ?_ _ | exact Nat.le_refl _ | exact later_size _ _ | refine Nat.le_trans ?_ (later_size _ _) | refine Nat.le_trans ?_ (size_alloc_le _ _) | refine Nat.le_trans ?_ (Nat.le_add_right _ _))) rfl (fun K hK => ?_); apply Exists.intro; refine ⟨fun x => ?_, ?_⟩; focus (go_simp; (try go_bits); (try go_simp); (try rfl))); (go_simp; (try go_bits); refine hK _ ?_; clear hK K); (refine step_read (i := 2) (by kernel_rfl) (by kernel_rfl) rfl (by repeat (with_reducible first | exact hbD | exact Below.refl _ _ | refine bw_later ?_ _ | refine bw_alloc ?_ _ | refine bw_drew ?_ | refine bw_set ?_ (Nat.le_refl _) _ | refine bw_set ?_ ?_ _ | exact Nat.le_refl _ | exact later_size _ _ | refine Nat.le_trans ?_ (later_size _ _) | refine Nat.le_trans ?_ (size_alloc_le _ _) | refine Nat.le_trans ?_ (Nat.le_add_right _ _))) rfl (fun K hK => ?_); apply Exists.intro; refine ⟨fun x => ?_, ?_⟩; focus (go_simp; (try go_bits); (try go_simp); (try rfl))); (go_simp; (try go_bits); refine hK _ ?_; clear hK K); (refine step_read (i := 3) (by kernel_rfl) (by kernel_rfl) rfl (by repeat (with_reducible first | exact hbD | exact Below.refl _ _ | refine bw_later ?_ _ | refine bw_alloc ?_ _ | refine bw_drew ?_ | refine bw_set ?_ (Nat.le_refl _) _ | refine bw_set ?_ ?_ _ | exact Nat.le_refl _ | exact later_size _ _ | refine Nat.le_trans ?_ (later_size _ _) | refine Nat.le_trans ?_ (size_alloc_le _ _) | refine Nat.le_trans ?_ (Nat.le_add_right _ _))) rfl (fun K hK => ?_); apply Exists.intro; refine ⟨fun x => ?_, ?_⟩; focus (go_simp; (try go_bits); (try go_simp); (try rfl))); (go_simp; (try go_bits); refine hK _ ?_; clear hK K); (refine step_read (i := 4) (by kernel_rfl) (by kernel_rfl) rfl (by repeat (with_reducible first | exact hbD | exact Below.refl _ _ | refine bw_later ?_ _ | refine bw_alloc ?_ _ | refine bw_drew ?_ | refine bw_set ?_ (Nat.le_refl _) _ | refine bw_set ?_ ?_ _ | exact Nat.le_refl _ | exact later_size _ _ | refine Nat.le_trans ?_ (later_size _ _) | refine Nat.le_trans ?_ (size_alloc_le _ _) | refine Nat.le_trans ?_ (Nat.le_add_right _ _))) rfl (fun K hK => ?_); apply Exists.intro; refine ⟨fun x => ?_, ?_⟩; focus (go_simp; (try go_bits); (try go_simp); (try rfl))); (go_simp; (try go_bits); refine hK _ ?_; clear hK K); (refine step_read (i := 5) (by kernel_rfl) (by kernel_rfl) rfl (by repeat (with_reducible first | exact hbD | exact Below.refl _ _ | refine bw_later ?_ _ | refine bw_alloc ?_ _ | refine bw_drew ?_ | refine bw_set ?_ (Nat.le_refl _) _ | refine bw_set ?_ ?_ _ | exact Nat.le_refl _ | exact later_size _ _ | refine Nat.le_trans ?_ (later_size _ _) | refine Nat.le_trans ?_ (size_alloc_le _ _) | refine Nat.le_trans ?_ (Nat.le_add_right _ _))) rfl (fun K hK => ?_); apply Exists.intro; refine ⟨fun x => ?_, ?_⟩; focus (go_simp; (try go_bits); (try go_simp); (try rfl))); (go_simp; (try go_bits); refine hK _ ?_; clear hK K); (refine step_read (i := 6) (by kernel_rfl) (by kernel_rfl) rfl (by repeat (with_reducible first | exact hbD | exact Below.refl _ _ | refine bw_later ?_ _ | refine bw_alloc ?_ _ | refine bw_drew ?_ | refine bw_set ?_ (Nat.le_refl _) _ | refine bw_set ?_ ?_ _ | exact Nat.le_refl _ | exact later_size _ _ | refine Nat.le_trans ?_ (later_size _ _) | refine Nat.le_trans ?_ (size_alloc_le _ _) | refine Nat.le_trans ?_ (Nat.le_add_right _ _))) rfl (fun K hK => ?_); apply Exists.intro; refine ⟨fun x => ?_, ?_⟩; focus (go_simp; (try go_bits); (try go_simp); (try rfl))); (go_simp; (try go_bits); refine hK _ ?_; clear hK K); (refine step_read (i := 7) (by kernel_rfl) (by kernel_rfl) rfl (by repeat (with_reducible first | exact hbD | exact Below.refl _ _ | refine bw_later ?_ _ | refine bw_alloc ?_ _ | refine bw_drew ?_ | refine bw_set ?_ (Nat.le_refl _) _ | refine bw_set ?_ ?_ _ | exact Nat.le_refl _ | exact later_size _ _ | refine Nat.le_trans ?_ (later_size _ _) | refine Nat.le_trans ?_ (size_alloc_le _ _) | refine Nat.le_trans ?_ (Nat.le_add_right _ _))) rfl (fun K hK => ?_); apply Exists.intro; refine ⟨fun x => ?_, ?_⟩; focus (go_simp; (try go_bits); (try go_simp); (try rfl))); (go_simp; (try go_bits); refine hK _ ?_; clear hK K); (refine step_read (i := 8) (by kernel_rfl) (by kernel_rfl) rfl (by repeat (with_reducible first | exact hbD | exact Below.refl _ _ | refine bw_later ?_ _ | refine bw_alloc ?_ _ | refine bw_drew ?_ | refine bw_set ?_ (Nat.le_refl _) _ | refine bw_set ?_ ?_ _ | exact Nat.le_refl _ | exact later_size _ _ | refine Nat.le_trans ?_ (later_size _ _) | refine Nat.le_trans ?_ (size_alloc_le _ _) | refine Nat.le_trans ?_ (Nat.le_add_right _ _))) rfl (fun K hK => ?_); apply Exists.intro; refine ⟨fun x => ?_, ?_⟩; focus (go_simp; (try go_bits); (try go_simp); (try rfl))); (go_simp; (try go_bits); refine hK _ ?_; clear hK K))
    clear gl1 b1 b2 b4 be
    (refine step_one (i := 9) (by kernel_rfl) rfl (by repeat (with_reducible first | exact hbD | exact Below.refl _ _ | refine bw_later ?_ _ | refine bw_alloc ?_ _ | refine bw_drew ?_ | refine bw_set ?_ (Nat.le_refl _) _ | refine bw_set ?_ ?_ _ | exact Nat.le_refl _ | exact later_size _ _ | refine Nat.le_trans ?_ (later_size _ _) | refine Nat.le_trans ?_ (size_alloc_le _ _) | refine Nat.le_trans ?_ (Nat.le_add_right _ _))) (fun K hK => ?_); go_wp2_with ((go_at_call 16; refine (read_any _ (by first | exact z1 | exact z2 | exact z4 | exact ze) _).on ?_; intro xq; replace hbD := bw_later (show Below w1.heap.size w1 _ from (by first | exact hbD | exact bw_set hbD hbc _)) xq; (first | (replace HC := Lib.hid (HC.out.later xq)) | (replace HC := Lib.hid ((HC.out.set0 _).later xq)) | (replace HC := Lib.hid ((HC.out.set1 _).later xq)) | (replace HC := Lib.hid ((HC.out.set2 _).later xq)) | (replace HC := Lib.hid ((HC.out.set3 _).later xq)) | (replace HC := Lib.hid ((HC.out.set4 _).later xq))); clear rl r0 r1 r2 r3 r4 rf gl d1 d2 d4 de cl c0 c1 c2 c3 c4 cf; generalize later _ xq = wn at *; obtain ⟨rl, r0, r1, r2, r3, r4, rf⟩ := HF.out.keep hbD; obtain ⟨gl, d1, d2, d4, de⟩ := HW.out.keep hbD; obtain ⟨cl, c0, c1, c2, c3, c4, cf⟩ := HC.out)); (try refine hK _ _ ?_); (try clear hK K))
    ((refine step_read (i := 10) (by kernel_rfl) (by kernel_rfl) rfl (by repeat (with_reducible first | exact hbD | exact Below.refl _ _ | refine bw_later ?_ _ | refine bw_alloc ?_ _ | refine bw_drew ?_ | refine bw_set ?_ (Nat.le_refl _) _ | refine bw_set ?_ ?_ _ | exact Nat.le_refl _ | exact later_size _ _ | refine Nat.le_trans ?_ (later_size _ _) | refine Nat.le_trans ?_ (size_alloc_le _ _) | refine Nat.le_trans ?_ (Nat.le_add_right _ _))) rfl (fun K hK => ?_); apply Exists.intro; refine ⟨fun x => ?_, ?_⟩; focus (go_simp; (try go_bits); (try go_simp); (try rfl))); (go_simp; (try go_bits); refine hK _ ?_; clear hK K); (refine step_read (i := 11) (by kernel_rfl) (by kernel_rfl) rfl (by repeat (with_reducible first | exact hbD | exact Below.refl _ _ | refine bw_later ?_ _ | refine bw_alloc ?_ _ | refine bw_drew ?_ | refine bw_set ?_ (Nat.le_refl _) _ | refine bw_set ?_ ?_ _ | exact Nat.le_refl _ | exact later_size _ _ | refine Nat.le_trans ?_ (later_size _ _) | refine Nat.le_trans ?_ (size_alloc_le _ _) | refine Nat.le_trans ?_ (Nat.le_add_right _ _))) rfl (fun K hK => ?_); apply Exists.intro; refine ⟨fun x => ?_, ?_⟩; focus (go_simp; (try go_bits); (try go_simp); (try rfl))); (go_simp; (try go_bits); refine hK _ ?_; clear hK K); (refine step_read (i := 12) (by kernel_rfl) (by kernel_rfl) rfl (by repeat (with_reducible first | exact hbD | exact Below.refl _ _ | refine bw_later ?_ _ | refine bw_alloc ?_ _ | refine bw_drew ?_ | refine bw_set ?_ (Nat.le_refl _) _ | refine bw_set ?_ ?_ _ | exact Nat.le_refl _ | exact later_size _ _ | refine Nat.le_trans ?_ (later_size _ _) | refine Nat.le_trans ?_ (size_alloc_le _ _) | refine Nat.le_trans ?_ (Nat.le_add_right _ _))) rfl (fun K hK => ?_); apply Exists.intro; refine ⟨fun x => ?_, ?_⟩; focus (go_simp; (try go_bits); (try go_simp); (try rfl))); (go_simp; (try go_bits); refine hK _ ?_; clear hK K); (refine step_read (i := 13) (by kernel_rfl) (by kernel_rfl) rfl (by repeat (with_reducible first | exact hbD | exact Below.refl _ _ | refine bw_later ?_ _ | refine bw_alloc ?_ _ | refine bw_drew ?_ | refine bw_set ?_ (Nat.le_refl _) _ | refine bw_set ?_ ?_ _ | exact Nat.le_refl _ | exact later_size _ _ | refine Nat.le_trans ?_ (later_size _ _) | refine Nat.le_trans ?_ (size_alloc_le _ _) | refine Nat.le_trans ?_ (Nat.le_add_right _ _))) rfl (fun K hK => ?_); apply Exists.intro; refine ⟨fun x => ?_, ?_⟩; focus (go_simp; (try go_bits); (try go_simp); (try rfl))); (go_simp; (try go_bits); refine hK _ ?_; clear hK K))
    (refine step_one (i := 14) (by kernel_rfl) rfl (by repeat (with_reducible first | exact hbD | exact Below.refl _ _ | refine bw_later ?_ _ | refine bw_alloc ?_ _ | refine bw_drew ?_ | refine bw_set ?_ (Nat.le_refl _) _ | refine bw_set ?_ ?_ _ | exact Nat.le_refl _ | exact later_size _ _ | refine Nat.le_trans ?_ (later_size _ _) | refine Nat.le_trans ?_ (size_alloc_le _ _) | refine Nat.le_trans ?_ (Nat.le_add_right _ _))) (fun K hK => ?_); go_wp2; (try refine hK _ _ ?_); (try clear hK K))
    (refine step_end (by kernel_rfl) (by repeat (with_reducible first | exact hbD | exact Below.refl _ _ | refine bw_later ?_ _ | refine bw_alloc ?_ _ | refine bw_drew ?_ | refine bw_set ?_ (Nat.le_refl _) _ | refine bw_set ?_ ?_ _ | exact Nat.le_refl _ | exact later_size _ _ | refine Nat.le_trans ?_ (later_size _ _) | refine Nat.le_trans ?_ (size_alloc_le _ _) | refine Nat.le_trans ?_ (Nat.le_add_right _ _))) ?_)
    go_wp2_with (go_at_call 16; refine (read_any _ (by first | exact z1 | exact z2 | exact z4 | exact ze) _).on ?_; intro xq; replace hbD := bw_later (show Below w1.heap.size w1 _ from (by first | exact hbD | exact bw_set hbD hbc _)) xq; (first | (replace HC := Lib.hid (HC.out.later xq)) | (replace HC := Lib.hid ((HC.out.set0 _).later xq)) | (replace HC := Lib.hid ((HC.out.set1 _).later xq)) | (replace HC := Lib.hid ((HC.out.set2 _).later xq)) | (replace HC := Lib.hid ((HC.out.set3 _).later xq)) | (replace HC := Lib.hid ((HC.out.set4 _).later xq))); clear rl r0 r1 r2 r3 r4 rf gl d1 d2 d4 de cl c0 c1 c2 c3 c4 cf; generalize later _ xq = wn at *; obtain ⟨rl, r0, r1, r2, r3, r4, rf⟩ := HF.out.keep hbD; obtain ⟨gl, d1, d2, d4, de⟩ := HW.out.keep hbD; obtain ⟨cl, c0, c1, c2, c3, c4, cf⟩ := HC.out)
    clear rl r0 r1 r2 r3 r4 rf gl d1 d2 d4 de cl c0 c1 c2 c3 c4 cf
    go_loopw [7] (fun i wr => ∃ k : Nat, k ≤ 4 ∧ i = .int .i64 (k : Int) ∧ Below w1.heap.size w1 wr ∧ (∃ v3, Hid (Blk wr w1.heap.size (.int .i64 (readF (a1.extract 0 m)).1) (.int .i64 (readF a2).1) (.int .i64 (readF a4).1) v3 (.int .i64 (readF ae).1))) ∧ Hid (∀ j : Nat, j < k → ¬ (isCabin (⟨(readF (a1.extract 0 m)).1, (readF a2).1, (readF a4).1, (j : Int), (readF ae).1⟩ : R5) = true ∧ cabB (⟨(readF (a1.extract 0 m)).1, (readF a2).1, (readF a4).1, (j : Int), (readF ae).1⟩ : R5) = s))) (fun i _ => 4 - (intOf i).toNat)
    case atStart => exact ⟨0, by omega, rfl, bw_set hbD hbc _, ⟨_, Lib.hid (HC.out.set4 _)⟩, Lib.hid fun j hj => absurd hj (by omega)⟩
    clear hbD HC
    case round =>
      obtain ⟨k, hk, rfl, hbD, ⟨v3, HC⟩, hx⟩ := hrel
      obtain ⟨rl, r0, r1, r2, r3, r4, rf⟩ := HF.out.keep hbD
      obtain ⟨gl, d1, d2, d4, de⟩ := HW.out.keep hbD
      obtain ⟨cl, c0, c1, c2, c3, c4, cf⟩ := HC.out
      by_cases hlt : k < 4
      · cases hok : isCabin (⟨(readF (a1.extract 0 m)).1, (readF a2).1, (readF a4).1, (k : Int), (readF ae).1⟩ : R5)
        · have hx1 := Lib.hid (no_step (P := fun j => isCabin (⟨(readF (a1.extract 0 m)).1, (readF a2).1, (readF a4).1, (j : Int), (readF ae).1⟩ : R5) = true ∧ cabB (⟨(readF (a1.extract 0 m)).1, (readF a2).1, (readF a4).1, (j : Int), (readF ae).1⟩ : R5) = s) hx.out (by rw [hok]; simp))
          go_wp2_with (first
                | (go_at_call 11; refine (l5One_any (⟨(readF (a1.extract 0 m)).1, (readF a2).1, (readF a4).1, (k : Int), (readF ae).1⟩ : R5) _).on ?_; intro xq; replace hbD := bw_later (show Below w1.heap.size w1 _ from (by first | exact hbD | exact bw_set hbD hbc _)) xq; (first | (replace HC := Lib.hid (HC.out.later xq)) | (replace HC := Lib.hid ((HC.out.set0 _).later xq)) | (replace HC := Lib.hid ((HC.out.set1 _).later xq)) | (replace HC := Lib.hid ((HC.out.set2 _).later xq)) | (replace HC := Lib.hid ((HC.out.set3 _).later xq)) | (replace HC := Lib.hid ((HC.out.set4 _).later xq))); clear rl r0 r1 r2 r3 r4 rf gl d1 d2 d4 de cl c0 c1 c2 c3 c4 cf; generalize later _ xq = wn at *; obtain ⟨rl, r0, r1, r2, r3, r4, rf⟩ := HF.out.keep hbD; obtain ⟨gl, d1, d2, d4, de⟩ := HW.out.keep hbD; obtain ⟨cl, c0, c1, c2, c3, c4, cf⟩ := HC.out))
          go_roundw
          case rel => exact ⟨k + 1, by omega, by go_num, hbD, ⟨_, HC⟩, hx1⟩
          case measure => simp [intOf]; omega
        · cases hq : ((cabB (⟨(readF (a1.extract 0 m)).1, (readF a2).1, (readF a4).1, (k : Int), (readF ae).1⟩ : R5)).toList == s.toList)
          · have hx1 := Lib.hid (no_step (P := fun j => isCabin (⟨(readF (a1.extract 0 m)).1, (readF a2).1, (readF a4).1, (j : Int), (readF ae).1⟩ : R5) = true ∧ cabB (⟨(readF (a1.extract 0 m)).1, (readF a2).1, (readF a4).1, (j : Int), (readF ae).1⟩ : R5) = s) hx.out (by rw [str_eq] at hq; simp at hq; exact fun h => hq h.2))
            go_wp2_with (first
                | (go_at_call 11; refine (l5One_any (⟨(readF (a1.extract 0 m)).1, (readF a2).1, (readF a4).1, (k : Int), (readF ae).1⟩ : R5) _).on ?_; intro xq; replace hbD := bw_later (show Below w1.heap.size w1 _ from (by first | exact hbD | exact bw_set hbD hbc _)) xq; (first | (replace HC := Lib.hid (HC.out.later xq)) | (replace HC := Lib.hid ((HC.out.set0 _).later xq)) | (replace HC := Lib.hid ((HC.out.set1 _).later xq)) | (replace HC := Lib.hid ((HC.out.set2 _).later xq)) | (replace HC := Lib.hid ((HC.out.set3 _).later xq)) | (replace HC := Lib.hid ((HC.out.set4 _).later xq))); clear rl r0 r1 r2 r3 r4 rf gl d1 d2 d4 de cl c0 c1 c2 c3 c4 cf; generalize later _ xq = wn at *; obtain ⟨rl, r0, r1, r2, r3, r4, rf⟩ := HF.out.keep hbD; obtain ⟨gl, d1, d2, d4, de⟩ := HW.out.keep hbD; obtain ⟨cl, c0, c1, c2, c3, c4, cf⟩ := HC.out)
                | (go_at_call 12; refine (s_cabinText_any (⟨(readF (a1.extract 0 m)).1, (readF a2).1, (readF a4).1, (k : Int), (readF ae).1⟩ : R5) hok _).on ?_; intro xq; replace hbD := bw_later (show Below w1.heap.size w1 _ from (by first | exact hbD | exact bw_set hbD hbc _)) xq; (first | (replace HC := Lib.hid (HC.out.later xq)) | (replace HC := Lib.hid ((HC.out.set0 _).later xq)) | (replace HC := Lib.hid ((HC.out.set1 _).later xq)) | (replace HC := Lib.hid ((HC.out.set2 _).later xq)) | (replace HC := Lib.hid ((HC.out.set3 _).later xq)) | (replace HC := Lib.hid ((HC.out.set4 _).later xq))); clear rl r0 r1 r2 r3 r4 rf gl d1 d2 d4 de cl c0 c1 c2 c3 c4 cf; generalize later _ xq = wn at *; obtain ⟨rl, r0, r1, r2, r3, r4, rf⟩ := HF.out.keep hbD; obtain ⟨gl, d1, d2, d4, de⟩ := HW.out.keep hbD; obtain ⟨cl, c0, c1, c2, c3, c4, cf⟩ := HC.out))
            go_roundw
            case rel => exact ⟨k + 1, by omega, by go_num, hbD, ⟨_, HC⟩, hx1⟩
            case measure => simp [intOf]; omega
          · have hfin := Lib.hid (hok0.out _ hok (by rw [str_eq] at hq; simpa using hq))
            go_wp2_with (first
                | (go_at_call 11; refine (l5One_any (⟨(readF (a1.extract 0 m)).1, (readF a2).1, (readF a4).1, (k : Int), (readF ae).1⟩ : R5) _).on ?_; intro xq; replace hbD := bw_later (show Below w1.heap.size w1 _ from (by first | exact hbD | exact bw_set hbD hbc _)) xq; (first | (replace HC := Lib.hid (HC.out.later xq)) | (replace HC := Lib.hid ((HC.out.set0 _).later xq)) | (replace HC := Lib.hid ((HC.out.set1 _).later xq)) | (replace HC := Lib.hid ((HC.out.set2 _).later xq)) | (replace HC := Lib.hid ((HC.out.set3 _).later xq)) | (replace HC := Lib.hid ((HC.out.set4 _).later xq))); clear rl r0 r1 r2 r3 r4 rf gl d1 d2 d4 de cl c0 c1 c2 c3 c4 cf; generalize later _ xq = wn at *; obtain ⟨rl, r0, r1, r2, r3, r4, rf⟩ := HF.out.keep hbD; obtain ⟨gl, d1, d2, d4, de⟩ := HW.out.keep hbD; obtain ⟨cl, c0, c1, c2, c3, c4, cf⟩ := HC.out)
                | (go_at_call 12; refine (s_cabinText_any (⟨(readF (a1.extract 0 m)).1, (readF a2).1, (readF a4).1, (k : Int), (readF ae).1⟩ : R5) hok _).on ?_; intro xq; replace hbD := bw_later (show Below w1.heap.size w1 _ from (by first | exact hbD | exact bw_set hbD hbc _)) xq; (first | (replace HC := Lib.hid (HC.out.later xq)) | (replace HC := Lib.hid ((HC.out.set0 _).later xq)) | (replace HC := Lib.hid ((HC.out.set1 _).later xq)) | (replace HC := Lib.hid ((HC.out.set2 _).later xq)) | (replace HC := Lib.hid ((HC.out.set3 _).later xq)) | (replace HC := Lib.hid ((HC.out.set4 _).later xq))); clear rl r0 r1 r2 r3 r4 rf gl d1 d2 d4 de cl c0 c1 c2 c3 c4 cf; generalize later _ xq = wn at *; obtain ⟨rl, r0, r1, r2, r3, r4, rf⟩ := HF.out.keep hbD; obtain ⟨gl, d1, d2, d4, de⟩ := HW.out.keep hbD; obtain ⟨cl, c0, c1, c2, c3, c4, cf⟩ := HC.out))
            replace hbD := bw_trans hb1 hbD
            exact bodyPost_ret (v := .tuple #[.agg #[.int .i64 (readF (a1.extract 0 m)).1, .int .i64 (readF a2).1, .int .i64 (readF a4).1, .int .i64 (k : Int), .int .i64 (readF ae).1], .bool true]) (by simp [results, Tryd.results8, go_sem, r0, r1, r2, r3, r4]) rfl ⟨by rw [hfin.out]; try rfl, (by repeat (with_reducible first | exact hbD | exact Below.refl _ _ | refine bw_later ?_ _ | refine bw_alloc ?_ _ | refine bw_drew ?_ | refine bw_set ?_ (Nat.le_refl _) _ | refine bw_set ?_ ?_ _ | exact Nat.le_refl _ | exact later_size _ _ | refine Nat.le_trans ?_ (later_size _ _) | refine Nat.le_trans ?_ (size_alloc_le _ _) | refine Nat.le_trans ?_ (Nat.le_add_right _ _)))⟩
      · obtain rfl : k = 4 := by omega
        have hfin := Lib.hid (hno.out fun d h0 h1 => by
          have := hx.out d.toNat (by omega)
          rwa [Int.toNat_of_nonneg h0] at this)
        go_wp2
        replace hbD := bw_trans hb1 hbD
        exact bodyPost_ret (v := .tuple #[.agg #[.int .i64 0, .int .i64 0, .int .i64 0, .int .i64 0, .int .i64 0], .bool false]) (by simp [results, Tryd.results8, go_sem, r0, r1, r2, r3, r4]) rfl ⟨by rw [hfin.out]; try rfl, (by repeat (with_reducible first | exact hbD | exact Below.refl _ _ | refine bw_later ?_ _ | refine bw_alloc ?_ _ | refine bw_drew ?_ | refine bw_set ?_ (Nat.le_refl _) _ | refine bw_set ?_ ?_ _ | exact Nat.le_refl _ | exact later_size _ _ | refine Nat.le_trans ?_ (later_size _ _) | refine Nat.le_trans ?_ (size_alloc_le _ _) | refine Nat.le_trans ?_ (Nat.le_add_right _ _)))⟩
end Go.Proofs.YtnibhaabhjgmgaaDoor
