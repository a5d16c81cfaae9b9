/- A line as text: the program, the law. -/
import Derived.Test.YteakffedlojcmaaDoorText
import Derived.Test.YteakffedlojcmaaDoorJoin
import Derived.Test.YteakffedlojcmaaDoorSplit
import Derived.Test.YteakffedlojcmaaDoorBoxed
namespace Go.Proofs.YteakffedlojcmaaDoor
open Go.RowKit
theorem text_size {xs : List Sup} (hL : LineOk xs) : ∀ k, k ≤ xs.length → (textTo xs k).size ≤ 50 * k
  | 0, _ => by rw [text_zero]; decide
  | k + 1, hk => by
    have ih := text_size hL k (by omega)
    have hr : xs[k]? = some xs[k] := List.getElem?_eq_getElem (by omega)
    obtain ⟨⟨b1, b2⟩, b3, b4⟩ := hL.bd _ _ hr
    have s1 := numB_size (n := xs[k].at_) (by omega) (by omega)
    have s2 := numB_size (n := xs[k].h) (by omega) (by omega)
    rw [text_step hr, ByteArray.size_append, supB_size]
    split
    · omega
    · rw [ByteArray.size_append, one_size]
      omega
def ltF (xs : List Sup) : ByteArray := if okLine xs then textOf xs else ⟨#[]⟩
def wordsTo (xs : List Sup) (k : Nat) : List ByteArray := (xs.take k).map supB
theorem words_len {xs : List Sup} {k : Nat} (h : k ≤ xs.length) : (wordsTo xs k).length = k := by simp [wordsTo]; omega
theorem words_step {xs : List Sup} {k : Nat} {r : Sup} (hr : xs[k]? = some r) : wordsTo xs (k + 1) = wordsTo xs k ++ [supB r] := by simp [wordsTo, List.take_add_one, hr]
theorem words_all {xs : List Sup} {n : Nat} (h : xs.length = n) : mkB (Lib.join ((wordsTo xs n).map (·.data.toList)) [32]) = textOf xs := by
  subst h
  simp only [wordsTo, textOf, List.take_length, List.map_map]
  rfl
set_option maxHeartbeats 1000000 in
set_option maxRecDepth 20000 in
theorem lineText_any (g off n c : Nat) (xs : List Sup) (w : World) (hs : SSup w g off n xs) (hL0 : LineOk xs) (ht : Tab w) : Gv Tryd.prog 50 #[.slice (some ⟨g, off, none⟩) n c] w (.string (textOf xs)) := by
  unfold Gv
  obtain ⟨i0, hi, hz0, hz1, hz2⟩ := info_parts infoStr
  have Hi := Lib.hid hi
  have Hz0 := Lib.hid hz0
  have Hz1 := Lib.hid hz1
  have Hz2 := Lib.hid hz2
  clear hi hz0 hz1 hz2
  have hl := Lib.hid hs.2.1
  have hg := hs.1
  have hL := Lib.hid hL0
  have h28 := hL0.len
  rw [hs.2.1] at h28
  clear hL0
  go_enter Tryd.func50, Tryd.ntmps50
  go_wp2
  go_loopw [3, 10] (fun t i wr => ∃ k : Nat, Below w.heap.size w wr ∧ k ≤ n ∧ i = .int .i64 (k : Int) ∧ wr.ownsRow w.heap.size 9 1 t k ((wordsTo xs k).map Value.string)) (fun _ i _ => n - (intOf i).toNat)
  case atStart => exact ⟨0, (by repeat (with_reducible first | exact hbD | exact Below.refl _ _ | refine bw_later ?_ _ | refine bw_alloc ?_ _ | refine bw_drew ?_ | refine bw_set ?_ (Nat.le_refl _) _ | refine bw_set ?_ ?_ _ | exact Nat.le_refl _ | exact later_size _ _ | refine Nat.le_trans ?_ (later_size _ _) | refine Nat.le_trans ?_ (size_alloc_le _ _) | refine Nat.le_trans ?_ (Nat.le_add_right _ _))), by omega, rfl, World.ownsRow_made w #[] 0 (Nat.le_refl _) (by decide) rfl⟩
  case round =>
    obtain ⟨k, hbw, hk, rfl, hown⟩ := hrel
    obtain ⟨y, rfl⟩ := exists_later hbw
    clear hbw
    have hgy := lt_later _ y g hg
    by_cases hlt : k < n
    · obtain ⟨r, hr0⟩ := hs.at_ hlt
      obtain ⟨c0, c1, c2⟩ := hs.2.2 k r hr0
      obtain ⟨⟨b1, b2⟩, b3, b4⟩ := hL.out.bd _ _ hr0
      have hr := Lib.hid hr0
      clear hr0
      obtain ⟨ra, rh, rs⟩ := r
      simp only at c0 c1 c2 b1 b2 b3 b4
      have s1 := numB_size (n := ra) (by omega) (by omega)
      have s2 := numB_size (n := rh) (by omega) (by omega)
      have hc : Hid (∀ n : Int, (n = ra ∨ n = rh) → ∀ w, Tab w → Gv Tryd.prog 35 #[.int .i64 n] w (.string (numB n))) := Lib.hid fun n hn w ht => itoa_any n (by omega) (by omega) w ht
      have z2 : ¬ 9223372036854775807 < 1 + (numB ra).size := by omega
      have z3 : ¬ 9223372036854775807 < 1 + (numB ra).size + 1 := by omega
      have z4 : ¬ 9223372036854775807 < 1 + (numB ra).size + 1 + (numB rh).size := by omega
      cases rs
      · have hfin := Lib.hid (show supB ⟨ra, rh, false⟩ = ⟨#[84]⟩ ++ numB ra ++ ⟨#[58]⟩ ++ numB rh by rfl)
        go_wp2
        refine wp_region_C (Cw w (later w y).heap.size #[.int .i64 ra, .int .i64 rh, .bool false] 61) (by kernel_rfl) ?_
        have hcw : Cw w (later w y).heap.size #[.int .i64 ra, .int .i64 rh, .bool false] 61 ((later w y).alloc (.cells #[.int .i64 ra, .int .i64 rh, .bool false] 61)) := Cw.new (later_below _ _) _ _
        ((refine step_readC (i := 0) (by kernel_rfl) (by kernel_rfl) rfl (by repeat (with_reducible first | assumption | refine Cw.later ?_ _ | refine Cw.alloc ?_ _ | refine Cw.drew ?_ | refine Cw.set ?_ ?_ ?_ _)) rfl (fun K hK => ?_); apply Exists.intro; refine ⟨fun wq hq => ?_, ?_⟩; focus (have hq0 := hq.cell 0; have hq1 := hq.cell 1; have hq2 := hq.cell 2; go_simp; (try go_bits); (try go_simp); (try rfl))); (go_simp; (try go_bits); refine hK _ ?_; clear hK K); (refine step_readC (i := 1) (by kernel_rfl) (by kernel_rfl) rfl (by repeat (with_reducible first | assumption | refine Cw.later ?_ _ | refine Cw.alloc ?_ _ | refine Cw.drew ?_ | refine Cw.set ?_ ?_ ?_ _)) rfl (fun K hK => ?_); apply Exists.intro; refine ⟨fun wq hq => ?_, ?_⟩; focus (have hq0 := hq.cell 0; have hq1 := hq.cell 1; have hq2 := hq.cell 2; go_simp; (try go_bits); (try go_simp); (try rfl))); (go_simp; (try go_bits); refine hK _ ?_; clear hK K); (refine step_readC (i := 2) (by kernel_rfl) (by kernel_rfl) rfl (by repeat (with_reducible first | assumption | refine Cw.later ?_ _ | refine Cw.alloc ?_ _ | refine Cw.drew ?_ | refine Cw.set ?_ ?_ ?_ _)) rfl (fun K hK => ?_); apply Exists.intro; refine ⟨fun wq hq => ?_, ?_⟩; focus (have hq0 := hq.cell 0; have hq1 := hq.cell 1; have hq2 := hq.cell 2; go_simp; (try go_bits); (try go_simp); (try rfl))); (go_simp; (try go_bits); refine hK _ ?_; clear hK K); (refine step_readC (i := 3) (by kernel_rfl) (by kernel_rfl) rfl (by repeat (with_reducible first | assumption | refine Cw.later ?_ _ | refine Cw.alloc ?_ _ | refine Cw.drew ?_ | refine Cw.set ?_ ?_ ?_ _)) rfl (fun K hK => ?_); apply Exists.intro; refine ⟨fun wq hq => ?_, ?_⟩; focus (have hq0 := hq.cell 0; have hq1 := hq.cell 1; have hq2 := hq.cell 2; go_simp; (try go_bits); (try go_simp); (try rfl))); (go_simp; (try go_bits); refine hK _ ?_; clear hK K); (refine step_readC (i := 7) (by kernel_rfl) (by kernel_rfl) rfl (by repeat (with_reducible first | assumption | refine Cw.later ?_ _ | refine Cw.alloc ?_ _ | refine Cw.drew ?_ | refine Cw.set ?_ ?_ ?_ _)) rfl (fun K hK => ?_); apply Exists.intro; refine ⟨fun wq hq => ?_, ?_⟩; focus (have hq0 := hq.cell 0; have hq1 := hq.cell 1; have hq2 := hq.cell 2; go_simp; (try go_bits); (try go_simp); (try rfl))); (go_simp; (try go_bits); refine hK _ ?_; clear hK K); (refine step_readC (i := 8) (by kernel_rfl) (by kernel_rfl) rfl (by repeat (with_reducible first | assumption | refine Cw.later ?_ _ | refine Cw.alloc ?_ _ | refine Cw.drew ?_ | refine Cw.set ?_ ?_ ?_ _)) rfl (fun K hK => ?_); apply Exists.intro; refine ⟨fun wq hq => ?_, ?_⟩; focus (have hq0 := hq.cell 0; have hq1 := hq.cell 1; have hq2 := hq.cell 2; go_simp; (try go_bits); (try go_simp); (try rfl))); (go_simp; (try go_bits); refine hK _ ?_; clear hK K))
        (refine step_one (i := 4) (by kernel_rfl) rfl (by repeat (with_reducible first | assumption | refine Cw.later ?_ _ | refine Cw.alloc ?_ _ | refine Cw.drew ?_ | refine Cw.set ?_ ?_ ?_ _)) (fun K hK => ?_); go_wp2_with ((go_at_call 35; (first | refine (hc.out _ (by first | exact .inl rfl | exact .inr rfl) _ (ht.keep (by repeat (with_reducible first | exact hbD | exact Below.refl _ _ | refine bw_later ?_ _ | refine bw_alloc ?_ _ | refine bw_drew ?_ | refine bw_set ?_ (Nat.le_refl _) _ | refine bw_set ?_ ?_ _ | exact Nat.le_refl _ | exact later_size _ _ | refine Nat.le_trans ?_ (later_size _ _) | refine Nat.le_trans ?_ (size_alloc_le _ _) | refine Nat.le_trans ?_ (Nat.le_add_right _ _))))).onL ?_ | refine (hc.out _ (by first | exact .inl rfl | exact .inr rfl) _ (ht.keep (by repeat (with_reducible first | exact hbD | exact Below.refl _ _ | refine bw_later ?_ _ | refine bw_alloc ?_ _ | refine bw_drew ?_ | refine bw_set ?_ (Nat.le_refl _) _ | refine bw_set ?_ ?_ _ | exact Nat.le_refl _ | exact later_size _ _ | refine Nat.le_trans ?_ (later_size _ _) | refine Nat.le_trans ?_ (size_alloc_le _ _) | refine Nat.le_trans ?_ (Nat.le_add_right _ _))))).on ?_); intro xq)); (try refine hK _ _ ?_); (try clear hK K))
        ((refine step_readC (i := 5) (by kernel_rfl) (by kernel_rfl) rfl (by repeat (with_reducible first | assumption | refine Cw.later ?_ _ | refine Cw.alloc ?_ _ | refine Cw.drew ?_ | refine Cw.set ?_ ?_ ?_ _)) rfl (fun K hK => ?_); apply Exists.intro; refine ⟨fun wq hq => ?_, ?_⟩; focus (have hq0 := hq.cell 0; have hq1 := hq.cell 1; have hq2 := hq.cell 2; go_simp; (try go_bits); (try go_simp); (try rfl))); (go_simp; (try go_bits); refine hK _ ?_; clear hK K); (refine step_readC (i := 6) (by kernel_rfl) (by kernel_rfl) rfl (by repeat (with_reducible first | assumption | refine Cw.later ?_ _ | refine Cw.alloc ?_ _ | refine Cw.drew ?_ | refine Cw.set ?_ ?_ ?_ _)) rfl (fun K hK => ?_); apply Exists.intro; refine ⟨fun wq hq => ?_, ?_⟩; focus (have hq0 := hq.cell 0; have hq1 := hq.cell 1; have hq2 := hq.cell 2; go_simp; (try go_bits); (try go_simp); (try rfl))); (go_simp; (try go_bits); refine hK _ ?_; clear hK K))
        (refine step_one (i := 9) (by kernel_rfl) rfl (by repeat (with_reducible first | assumption | refine Cw.later ?_ _ | refine Cw.alloc ?_ _ | refine Cw.drew ?_ | refine Cw.set ?_ ?_ ?_ _)) (fun K hK => ?_); go_wp2_with ((go_at_call 35; (first | refine (hc.out _ (by first | exact .inl rfl | exact .inr rfl) _ (ht.keep (by repeat (with_reducible first | exact hbD | exact Below.refl _ _ | refine bw_later ?_ _ | refine bw_alloc ?_ _ | refine bw_drew ?_ | refine bw_set ?_ (Nat.le_refl _) _ | refine bw_set ?_ ?_ _ | exact Nat.le_refl _ | exact later_size _ _ | refine Nat.le_trans ?_ (later_size _ _) | refine Nat.le_trans ?_ (size_alloc_le _ _) | refine Nat.le_trans ?_ (Nat.le_add_right _ _))))).onL ?_ | refine (hc.out _ (by first | exact .inl rfl | exact .inr rfl) _ (ht.keep (by repeat (with_reducible first | exact hbD | exact Below.refl _ _ | refine bw_later ?_ _ | refine bw_alloc ?_ _ | refine bw_drew ?_ | refine bw_set ?_ (Nat.le_refl _) _ | refine bw_set ?_ ?_ _ | exact Nat.le_refl _ | exact later_size _ _ | refine Nat.le_trans ?_ (later_size _ _) | refine Nat.le_trans ?_ (size_alloc_le _ _) | refine Nat.le_trans ?_ (Nat.le_add_right _ _))))).on ?_); intro xq)); (try refine hK _ _ ?_); (try clear hK K))
        ((refine step_readC (i := 10) (by kernel_rfl) (by kernel_rfl) rfl (by repeat (with_reducible first | assumption | refine Cw.later ?_ _ | refine Cw.alloc ?_ _ | refine Cw.drew ?_ | refine Cw.set ?_ ?_ ?_ _)) rfl (fun K hK => ?_); apply Exists.intro; refine ⟨fun wq hq => ?_, ?_⟩; focus (have hq0 := hq.cell 0; have hq1 := hq.cell 1; have hq2 := hq.cell 2; go_simp; (try go_bits); (try go_simp); (try rfl))); (go_simp; (try go_bits); refine hK _ ?_; clear hK K))
        (refine step_one (i := 11) (by kernel_rfl) rfl (by repeat (with_reducible first | assumption | refine Cw.later ?_ _ | refine Cw.alloc ?_ _ | refine Cw.drew ?_ | refine Cw.set ?_ ?_ ?_ _)) (fun K hK => ?_); go_wp2; (try refine hK _ _ ?_); (try clear hK K))
        (refine step_one (i := 12) (by kernel_rfl) rfl (by repeat (with_reducible first | assumption | refine Cw.later ?_ _ | refine Cw.alloc ?_ _ | refine Cw.drew ?_ | refine Cw.set ?_ ?_ ?_ _)) (fun K hK => ?_); go_wp2_with ((at_builtin; refine push_keep rfl _ _ _ rfl i0 _ 1 16 Tryd.underlying25 Hi.out Hz0.out Hz1.out Hz2.out rfl (by decide) _ _ _ rfl (by first | exact own_later (hown.alloc _) _ | exact own_later (own_drew (hown.alloc _)) _) (by repeat (with_reducible first | exact hbD | exact Below.refl _ _ | refine bw_later ?_ _ | refine bw_alloc ?_ _ | refine bw_drew ?_ | refine bw_set ?_ (Nat.le_refl _) _ | refine bw_set ?_ ?_ _ | exact Nat.le_refl _ | exact later_size _ _ | refine Nat.le_trans ?_ (later_size _ _) | refine Nat.le_trans ?_ (size_alloc_le _ _) | refine Nat.le_trans ?_ (Nat.le_add_right _ _))) _ (by simp) rfl rfl (by simp [Value.oneCell']) (by omega) (by omega) ?_; intro v1 y1 hown1 hk1; have hcw2 : Cw w (later w y).heap.size #[.int .i64 ra, .int .i64 rh, .bool false] 61 (later _ xq) := (by first | exact hcw.later xq | exact hcw.drew.later xq); have hcw1 : Cw w (later w y).heap.size #[.int .i64 ra, .int .i64 rh, .bool false] 61 (later w y1) := ⟨later_below _ _, (hk1 _ hcw2.lt (own_ne hown (Nat.le_refl _))).trans hcw2.blk⟩)); (try refine hK _ _ ?_); (try clear hK K))
        (refine step_one (i := 13) (by kernel_rfl) rfl (by repeat (with_reducible first | assumption | refine Cw.later ?_ _ | refine Cw.alloc ?_ _ | refine Cw.drew ?_ | refine Cw.set ?_ ?_ ?_ _)) (fun K hK => ?_); go_wp2; (try refine hK _ _ ?_); (try clear hK K))
        (refine step_end (by kernel_rfl) (by repeat (with_reducible first | assumption | refine Cw.later ?_ _ | refine Cw.alloc ?_ _ | refine Cw.drew ?_ | refine Cw.set ?_ ?_ ?_ _)) ?_)
        go_wp2
        go_roundw
        case rel => exact ⟨k + 1, (by repeat (with_reducible first | exact hbD | exact Below.refl _ _ | refine bw_later ?_ _ | refine bw_alloc ?_ _ | refine bw_drew ?_ | refine bw_set ?_ (Nat.le_refl _) _ | refine bw_set ?_ ?_ _ | exact Nat.le_refl _ | exact later_size _ _ | refine Nat.le_trans ?_ (later_size _ _) | refine Nat.le_trans ?_ (size_alloc_le _ _) | refine Nat.le_trans ?_ (Nat.le_add_right _ _))), by omega, by go_num, by rw [words_step hr.out, hfin.out, List.map_append]; exact hown1⟩
        case measure => simp [intOf]; omega
      · have hfin := Lib.hid (show supB ⟨ra, rh, true⟩ = ⟨#[83]⟩ ++ numB ra ++ ⟨#[58]⟩ ++ numB rh by rfl)
        go_wp2
        refine wp_region_C (Cw w (later w y).heap.size #[.int .i64 ra, .int .i64 rh, .bool true] 61) (by kernel_rfl) ?_
        have hcw : Cw w (later w y).heap.size #[.int .i64 ra, .int .i64 rh, .bool true] 61 ((later w y).alloc (.cells #[.int .i64 ra, .int .i64 rh, .bool true] 61)) := Cw.new (later_below _ _) _ _
        ((refine step_readC (i := 0) (by kernel_rfl) (by kernel_rfl) rfl (by repeat (with_reducible first | assumption | refine Cw.later ?_ _ | refine Cw.alloc ?_ _ | refine Cw.drew ?_ | refine Cw.set ?_ ?_ ?_ _)) rfl (fun K hK => ?_); apply Exists.intro; refine ⟨fun wq hq => ?_, ?_⟩; focus (have hq0 := hq.cell 0; have hq1 := hq.cell 1; have hq2 := hq.cell 2; go_simp; (try go_bits); (try go_simp); (try rfl))); (go_simp; (try go_bits); refine hK _ ?_; clear hK K); (refine step_readC (i := 1) (by kernel_rfl) (by kernel_rfl) rfl (by repeat (with_reducible first | assumption | refine Cw.later ?_ _ | refine Cw.alloc ?_ _ | refine Cw.drew ?_ | refine Cw.set ?_ ?_ ?_ _)) rfl (fun K hK => ?_); apply Exists.intro; refine ⟨fun wq hq => ?_, ?_⟩; focus (have hq0 := hq.cell 0; have hq1 := hq.cell 1; have hq2 := hq.cell 2; go_simp; (try go_bits); (try go_simp); (try rfl))); (go_simp; (try go_bits); refine hK _ ?_; clear hK K); (refine step_readC (i := 2) (by kernel_rfl) (by kernel_rfl) rfl (by repeat (with_reducible first | assumption | refine Cw.later ?_ _ | refine Cw.alloc ?_ _ | refine Cw.drew ?_ | refine Cw.set ?_ ?_ ?_ _)) rfl (fun K hK => ?_); apply Exists.intro; refine ⟨fun wq hq => ?_, ?_⟩; focus (have hq0 := hq.cell 0; have hq1 := hq.cell 1; have hq2 := hq.cell 2; go_simp; (try go_bits); (try go_simp); (try rfl))); (go_simp; (try go_bits); refine hK _ ?_; clear hK K); (refine step_readC (i := 3) (by kernel_rfl) (by kernel_rfl) rfl (by repeat (with_reducible first | assumption | refine Cw.later ?_ _ | refine Cw.alloc ?_ _ | refine Cw.drew ?_ | refine Cw.set ?_ ?_ ?_ _)) rfl (fun K hK => ?_); apply Exists.intro; refine ⟨fun wq hq => ?_, ?_⟩; focus (have hq0 := hq.cell 0; have hq1 := hq.cell 1; have hq2 := hq.cell 2; go_simp; (try go_bits); (try go_simp); (try rfl))); (go_simp; (try go_bits); refine hK _ ?_; clear hK K); (refine step_readC (i := 7) (by kernel_rfl) (by kernel_rfl) rfl (by repeat (with_reducible first | assumption | refine Cw.later ?_ _ | refine Cw.alloc ?_ _ | refine Cw.drew ?_ | refine Cw.set ?_ ?_ ?_ _)) rfl (fun K hK => ?_); apply Exists.intro; refine ⟨fun wq hq => ?_, ?_⟩; focus (have hq0 := hq.cell 0; have hq1 := hq.cell 1; have hq2 := hq.cell 2; go_simp; (try go_bits); (try go_simp); (try rfl))); (go_simp; (try go_bits); refine hK _ ?_; clear hK K); (refine step_readC (i := 8) (by kernel_rfl) (by kernel_rfl) rfl (by repeat (with_reducible first | assumption | refine Cw.later ?_ _ | refine Cw.alloc ?_ _ | refine Cw.drew ?_ | refine Cw.set ?_ ?_ ?_ _)) rfl (fun K hK => ?_); apply Exists.intro; refine ⟨fun wq hq => ?_, ?_⟩; focus (have hq0 := hq.cell 0; have hq1 := hq.cell 1; have hq2 := hq.cell 2; go_simp; (try go_bits); (try go_simp); (try rfl))); (go_simp; (try go_bits); refine hK _ ?_; clear hK K))
        (refine step_one (i := 4) (by kernel_rfl) rfl (by repeat (with_reducible first | assumption | refine Cw.later ?_ _ | refine Cw.alloc ?_ _ | refine Cw.drew ?_ | refine Cw.set ?_ ?_ ?_ _)) (fun K hK => ?_); go_wp2_with ((go_at_call 35; (first | refine (hc.out _ (by first | exact .inl rfl | exact .inr rfl) _ (ht.keep (by repeat (with_reducible first | exact hbD | exact Below.refl _ _ | refine bw_later ?_ _ | refine bw_alloc ?_ _ | refine bw_drew ?_ | refine bw_set ?_ (Nat.le_refl _) _ | refine bw_set ?_ ?_ _ | exact Nat.le_refl _ | exact later_size _ _ | refine Nat.le_trans ?_ (later_size _ _) | refine Nat.le_trans ?_ (size_alloc_le _ _) | refine Nat.le_trans ?_ (Nat.le_add_right _ _))))).onL ?_ | refine (hc.out _ (by first | exact .inl rfl | exact .inr rfl) _ (ht.keep (by repeat (with_reducible first | exact hbD | exact Below.refl _ _ | refine bw_later ?_ _ | refine bw_alloc ?_ _ | refine bw_drew ?_ | refine bw_set ?_ (Nat.le_refl _) _ | refine bw_set ?_ ?_ _ | exact Nat.le_refl _ | exact later_size _ _ | refine Nat.le_trans ?_ (later_size _ _) | refine Nat.le_trans ?_ (size_alloc_le _ _) | refine Nat.le_trans ?_ (Nat.le_add_right _ _))))).on ?_); intro xq)); (try refine hK _ _ ?_); (try clear hK K))
        ((refine step_readC (i := 5) (by kernel_rfl) (by kernel_rfl) rfl (by repeat (with_reducible first | assumption | refine Cw.later ?_ _ | refine Cw.alloc ?_ _ | refine Cw.drew ?_ | refine Cw.set ?_ ?_ ?_ _)) rfl (fun K hK => ?_); apply Exists.intro; refine ⟨fun wq hq => ?_, ?_⟩; focus (have hq0 := hq.cell 0; have hq1 := hq.cell 1; have hq2 := hq.cell 2; go_simp; (try go_bits); (try go_simp); (try rfl))); (go_simp; (try go_bits); refine hK _ ?_; clear hK K); (refine step_readC (i := 6) (by kernel_rfl) (by kernel_rfl) rfl (by repeat (with_reducible first | assumption | refine Cw.later ?_ _ | refine Cw.alloc ?_ _ | refine Cw.drew ?_ | refine Cw.set ?_ ?_ ?_ _)) rfl (fun K hK => ?_); apply Exists.intro; refine ⟨fun wq hq => ?_, ?_⟩; focus (have hq0 := hq.cell 0; have hq1 := hq.cell 1; have hq2 := hq.cell 2; go_simp; (try go_bits); (try go_simp); (try rfl))); (go_simp; (try go_bits); refine hK _ ?_; clear hK K))
        (refine step_one (i := 9) (by kernel_rfl) rfl (by repeat (with_reducible first | assumption | refine Cw.later ?_ _ | refine Cw.alloc ?_ _ | refine Cw.drew ?_ | refine Cw.set ?_ ?_ ?_ _)) (fun K hK => ?_); go_wp2_with ((go_at_call 35; (first | refine (hc.out _ (by first | exact .inl rfl | exact .inr rfl) _ (ht.keep (by repeat (with_reducible first | exact hbD | exact Below.refl _ _ | refine bw_later ?_ _ | refine bw_alloc ?_ _ | refine bw_drew ?_ | refine bw_set ?_ (Nat.le_refl _) _ | refine bw_set ?_ ?_ _ | exact Nat.le_refl _ | exact later_size _ _ | refine Nat.le_trans ?_ (later_size _ _) | refine Nat.le_trans ?_ (size_alloc_le _ _) | refine Nat.le_trans ?_ (Nat.le_add_right _ _))))).onL ?_ | refine (hc.out _ (by first | exact .inl rfl | exact .inr rfl) _ (ht.keep (by repeat (with_reducible first | exact hbD | exact Below.refl _ _ | refine bw_later ?_ _ | refine bw_alloc ?_ _ | refine bw_drew ?_ | refine bw_set ?_ (Nat.le_refl _) _ | refine bw_set ?_ ?_ _ | exact Nat.le_refl _ | exact later_size _ _ | refine Nat.le_trans ?_ (later_size _ _) | refine Nat.le_trans ?_ (size_alloc_le _ _) | refine Nat.le_trans ?_ (Nat.le_add_right _ _))))).on ?_); intro xq)); (try refine hK _ _ ?_); (try clear hK K))
        ((refine step_readC (i := 10) (by kernel_rfl) (by kernel_rfl) rfl (by repeat (with_reducible first | assumption | refine Cw.later ?_ _ | refine Cw.alloc ?_ _ | refine Cw.drew ?_ | refine Cw.set ?_ ?_ ?_ _)) rfl (fun K hK => ?_); apply Exists.intro; refine ⟨fun wq hq => ?_, ?_⟩; focus (have hq0 := hq.cell 0; have hq1 := hq.cell 1; have hq2 := hq.cell 2; go_simp; (try go_bits); (try go_simp); (try rfl))); (go_simp; (try go_bits); refine hK _ ?_; clear hK K))
        (refine step_one (i := 11) (by kernel_rfl) rfl (by repeat (with_reducible first | assumption | refine Cw.later ?_ _ | refine Cw.alloc ?_ _ | refine Cw.drew ?_ | refine Cw.set ?_ ?_ ?_ _)) (fun K hK => ?_); go_wp2; (try refine hK _ _ ?_); (try clear hK K))
        (refine step_one (i := 12) (by kernel_rfl) rfl (by repeat (with_reducible first | assumption | refine Cw.later ?_ _ | refine Cw.alloc ?_ _ | refine Cw.drew ?_ | refine Cw.set ?_ ?_ ?_ _)) (fun K hK => ?_); go_wp2_with ((at_builtin; refine push_keep rfl _ _ _ rfl i0 _ 1 16 Tryd.underlying25 Hi.out Hz0.out Hz1.out Hz2.out rfl (by decide) _ _ _ rfl (by first | exact own_later (hown.alloc _) _ | exact own_later (own_drew (hown.alloc _)) _) (by repeat (with_reducible first | exact hbD | exact Below.refl _ _ | refine bw_later ?_ _ | refine bw_alloc ?_ _ | refine bw_drew ?_ | refine bw_set ?_ (Nat.le_refl _) _ | refine bw_set ?_ ?_ _ | exact Nat.le_refl _ | exact later_size _ _ | refine Nat.le_trans ?_ (later_size _ _) | refine Nat.le_trans ?_ (size_alloc_le _ _) | refine Nat.le_trans ?_ (Nat.le_add_right _ _))) _ (by simp) rfl rfl (by simp [Value.oneCell']) (by omega) (by omega) ?_; intro v1 y1 hown1 hk1; have hcw2 : Cw w (later w y).heap.size #[.int .i64 ra, .int .i64 rh, .bool true] 61 (later _ xq) := (by first | exact hcw.later xq | exact hcw.drew.later xq); have hcw1 : Cw w (later w y).heap.size #[.int .i64 ra, .int .i64 rh, .bool true] 61 (later w y1) := ⟨later_below _ _, (hk1 _ hcw2.lt (own_ne hown (Nat.le_refl _))).trans hcw2.blk⟩)); (try refine hK _ _ ?_); (try clear hK K))
        (refine step_one (i := 13) (by kernel_rfl) rfl (by repeat (with_reducible first | assumption | refine Cw.later ?_ _ | refine Cw.alloc ?_ _ | refine Cw.drew ?_ | refine Cw.set ?_ ?_ ?_ _)) (fun K hK => ?_); go_wp2; (try refine hK _ _ ?_); (try clear hK K))
        (refine step_end (by kernel_rfl) (by repeat (with_reducible first | assumption | refine Cw.later ?_ _ | refine Cw.alloc ?_ _ | refine Cw.drew ?_ | refine Cw.set ?_ ?_ ?_ _)) ?_)
        go_wp2
        go_roundw
        case rel => exact ⟨k + 1, (by repeat (with_reducible first | exact hbD | exact Below.refl _ _ | refine bw_later ?_ _ | refine bw_alloc ?_ _ | refine bw_drew ?_ | refine bw_set ?_ (Nat.le_refl _) _ | refine bw_set ?_ ?_ _ | exact Nat.le_refl _ | exact later_size _ _ | refine Nat.le_trans ?_ (later_size _ _) | refine Nat.le_trans ?_ (size_alloc_le _ _) | refine Nat.le_trans ?_ (Nat.le_add_right _ _))), by omega, by go_num, by rw [words_step hr.out, hfin.out, List.map_append]; exact hown1⟩
        case measure => simp [intOf]; omega
    · obtain rfl : k = n := by omega
      obtain ⟨gp, cp, rfl, hp1, hp2, hp3⟩ := own_form hown (by omega)
      have hj := Lib.hid (join_any gp cp k (wordsTo xs k) ⟨#[32]⟩ w.heap.size (later w y) (words_len (by have := hl.out; omega)) hown hp2 hp3 (by omega) (by
        have e := words_all hl.out
        have e2 := text_size hL.out xs.length (Nat.le_refl _)
        have e3 := congrArg ByteArray.size e
        rw [mkB_size] at e3
        have e4 : textTo xs xs.length = textOf xs := by unfold textTo; rw [List.take_length]
        rw [e4] at e2
        have e5 := hl.out
        show (Lib.join ((wordsTo xs k).map (·.data.toList)) [32]).length ≤ _
        omega))
      have hfin := Lib.hid (words_all hl.out)
      go_wp2_with (go_at_call 60; (first | refine (hj.out).onL ?_ | refine (hj.out).on ?_); intro xq)
      go_ret
      exact ⟨by rw [← hfin.out]; rfl, (by repeat (with_reducible first | exact hbD | exact Below.refl _ _ | refine bw_later ?_ _ | refine bw_alloc ?_ _ | refine bw_drew ?_ | refine bw_set ?_ (Nat.le_refl _) _ | refine bw_set ?_ ?_ _ | exact Nat.le_refl _ | exact later_size _ _ | refine Nat.le_trans ?_ (later_size _ _) | refine Nat.le_trans ?_ (size_alloc_le _ _) | refine Nat.le_trans ?_ (Nat.le_add_right _ _)))⟩
theorem i_LineText_any (g off n c : Nat) (xs : List Sup) (w : World) (hs : SSup w g off n xs) (hn : n ≤ 1048576) (ht : Tab w) : Gv Tryd.prog 26 #[.slice (some ⟨g, off, none⟩) n c] w (.tuple #[.string (ltF xs), .bool (okLine xs)]) := by
  unfold Gv
  cases h0 : okLine xs
  · have hfin := Lib.hid (show ltF xs = ⟨#[]⟩ by simp [ltF, h0])
    go_enter Tryd.func26, Tryd.ntmps26
    go_wp2_with (first | (go_at_call 49; (first | refine (impl_IsLine_any g off n c xs _ (by first | exact hs | exact hs.later _ | exact hs.alloc _ | exact (hs.alloc _).later _ | exact (hs.later _).alloc _ | exact ((hs.later _).alloc _).later _ | exact ((hs.alloc _).later _).alloc _ | exact (hs.alloc _).alloc _ | exact ((hs.alloc _).alloc _).later _ | exact (((hs.alloc _).later _).alloc _).later _) hn).onL ?_ | refine (impl_IsLine_any g off n c xs _ (by first | exact hs | exact hs.later _ | exact hs.alloc _ | exact (hs.alloc _).later _ | exact (hs.later _).alloc _ | exact ((hs.later _).alloc _).later _ | exact ((hs.alloc _).later _).alloc _ | exact (hs.alloc _).alloc _ | exact ((hs.alloc _).alloc _).later _ | exact (((hs.alloc _).later _).alloc _).later _) hn).on ?_); intro xq))
    all_goals (go_ret2; exact ⟨by rw [hfin.out]; rfl, (by repeat (with_reducible first | exact hbD | exact Below.refl _ _ | refine bw_later ?_ _ | refine bw_alloc ?_ _ | refine bw_drew ?_ | refine bw_set ?_ (Nat.le_refl _) _ | refine bw_set ?_ ?_ _ | exact Nat.le_refl _ | exact later_size _ _ | refine Nat.le_trans ?_ (later_size _ _) | refine Nat.le_trans ?_ (size_alloc_le _ _) | refine Nat.le_trans ?_ (Nat.le_add_right _ _)))⟩)
  · have hfin := Lib.hid (show ltF xs = textOf xs by simp [ltF, h0])
    go_enter Tryd.func26, Tryd.ntmps26
    go_wp2_with (first | (go_at_call 49; (first | refine (impl_IsLine_any g off n c xs _ (by first | exact hs | exact hs.later _ | exact hs.alloc _ | exact (hs.alloc _).later _ | exact (hs.later _).alloc _ | exact ((hs.later _).alloc _).later _ | exact ((hs.alloc _).later _).alloc _ | exact (hs.alloc _).alloc _ | exact ((hs.alloc _).alloc _).later _ | exact (((hs.alloc _).later _).alloc _).later _) hn).onL ?_ | refine (impl_IsLine_any g off n c xs _ (by first | exact hs | exact hs.later _ | exact hs.alloc _ | exact (hs.alloc _).later _ | exact (hs.later _).alloc _ | exact ((hs.later _).alloc _).later _ | exact ((hs.alloc _).later _).alloc _ | exact (hs.alloc _).alloc _ | exact ((hs.alloc _).alloc _).later _ | exact (((hs.alloc _).later _).alloc _).later _) hn).on ?_); intro xq) | (go_at_call 50; (first | refine (lineText_any g off n c xs _ (by first | exact hs | exact hs.later _ | exact hs.alloc _ | exact (hs.alloc _).later _ | exact (hs.later _).alloc _ | exact ((hs.later _).alloc _).later _ | exact ((hs.alloc _).later _).alloc _ | exact (hs.alloc _).alloc _ | exact ((hs.alloc _).alloc _).later _ | exact (((hs.alloc _).later _).alloc _).later _) (line_ok h0) (ht.keep (by repeat (with_reducible first | exact hbD | exact Below.refl _ _ | refine bw_later ?_ _ | refine bw_alloc ?_ _ | refine bw_drew ?_ | refine bw_set ?_ (Nat.le_refl _) _ | refine bw_set ?_ ?_ _ | exact Nat.le_refl _ | exact later_size _ _ | refine Nat.le_trans ?_ (later_size _ _) | refine Nat.le_trans ?_ (size_alloc_le _ _) | refine Nat.le_trans ?_ (Nat.le_add_right _ _))))).onL ?_ | refine (lineText_any g off n c xs _ (by first | exact hs | exact hs.later _ | exact hs.alloc _ | exact (hs.alloc _).later _ | exact (hs.later _).alloc _ | exact ((hs.later _).alloc _).later _ | exact ((hs.alloc _).later _).alloc _ | exact (hs.alloc _).alloc _ | exact ((hs.alloc _).alloc _).later _ | exact (((hs.alloc _).later _).alloc _).later _) (line_ok h0) (ht.keep (by repeat (with_reducible first | exact hbD | exact Below.refl _ _ | refine bw_later ?_ _ | refine bw_alloc ?_ _ | refine bw_drew ?_ | refine bw_set ?_ (Nat.le_refl _) _ | refine bw_set ?_ ?_ _ | exact Nat.le_refl _ | exact later_size _ _ | refine Nat.le_trans ?_ (later_size _ _) | refine Nat.le_trans ?_ (size_alloc_le _ _) | refine Nat.le_trans ?_ (Nat.le_add_right _ _))))).on ?_); intro xq))
    all_goals (go_ret2; exact ⟨by rw [hfin.out]; rfl, (by repeat (with_reducible first | exact hbD | exact Below.refl _ _ | refine bw_later ?_ _ | refine bw_alloc ?_ _ | refine bw_drew ?_ | refine bw_set ?_ (Nat.le_refl _) _ | refine bw_set ?_ ?_ _ | exact Nat.le_refl _ | exact later_size _ _ | refine Nat.le_trans ?_ (later_size _ _) | refine Nat.le_trans ?_ (size_alloc_le _ _) | refine Nat.le_trans ?_ (Nat.le_add_right _ _)))⟩)
theorem s_LineText_any (g off n c : Nat) (xs : List Sup) (w : World) (hs : SSup w g off n xs) (hn : n ≤ 1048576)  : Gv Tryd.prog 24 #[.slice (some ⟨g, off, none⟩) n c] w (.tuple #[.string (ltF xs), .bool (okLine xs)]) := by
  unfold Gv
  cases h0 : okLine xs
  · have hfin := Lib.hid (show ltF xs = ⟨#[]⟩ by simp [ltF, h0])
    go_enter Tryd.func24, Tryd.ntmps24
    go_wp2_with (first | (go_at_call 46; (first | refine (l2Line_any g off n c xs _ (by first | exact hs | exact hs.later _ | exact hs.alloc _ | exact (hs.alloc _).later _ | exact (hs.later _).alloc _ | exact ((hs.later _).alloc _).later _ | exact ((hs.alloc _).later _).alloc _ | exact (hs.alloc _).alloc _ | exact ((hs.alloc _).alloc _).later _ | exact (((hs.alloc _).later _).alloc _).later _) hn).onL ?_ | refine (l2Line_any g off n c xs _ (by first | exact hs | exact hs.later _ | exact hs.alloc _ | exact (hs.alloc _).later _ | exact (hs.later _).alloc _ | exact ((hs.later _).alloc _).later _ | exact ((hs.alloc _).later _).alloc _ | exact (hs.alloc _).alloc _ | exact ((hs.alloc _).alloc _).later _ | exact (((hs.alloc _).later _).alloc _).later _) hn).on ?_); intro xq))
    all_goals (go_ret2; exact ⟨by rw [hfin.out]; rfl, (by repeat (with_reducible first | exact hbD | exact Below.refl _ _ | refine bw_later ?_ _ | refine bw_alloc ?_ _ | refine bw_drew ?_ | refine bw_set ?_ (Nat.le_refl _) _ | refine bw_set ?_ ?_ _ | exact Nat.le_refl _ | exact later_size _ _ | refine Nat.le_trans ?_ (later_size _ _) | refine Nat.le_trans ?_ (size_alloc_le _ _) | refine Nat.le_trans ?_ (Nat.le_add_right _ _)))⟩)
  · have hfin := Lib.hid (show ltF xs = textOf xs by simp [ltF, h0])
    go_enter Tryd.func24, Tryd.ntmps24
    go_wp2_with (first | (go_at_call 46; (first | refine (l2Line_any g off n c xs _ (by first | exact hs | exact hs.later _ | exact hs.alloc _ | exact (hs.alloc _).later _ | exact (hs.later _).alloc _ | exact ((hs.later _).alloc _).later _ | exact ((hs.alloc _).later _).alloc _ | exact (hs.alloc _).alloc _ | exact ((hs.alloc _).alloc _).later _ | exact (((hs.alloc _).later _).alloc _).later _) hn).onL ?_ | refine (l2Line_any g off n c xs _ (by first | exact hs | exact hs.later _ | exact hs.alloc _ | exact (hs.alloc _).later _ | exact (hs.later _).alloc _ | exact ((hs.later _).alloc _).later _ | exact ((hs.alloc _).later _).alloc _ | exact (hs.alloc _).alloc _ | exact ((hs.alloc _).alloc _).later _ | exact (((hs.alloc _).later _).alloc _).later _) hn).on ?_); intro xq) | (go_at_call 47; (first | refine (l2Text_any g off n c xs _ (by first | exact hs | exact hs.later _ | exact hs.alloc _ | exact (hs.alloc _).later _ | exact (hs.later _).alloc _ | exact ((hs.later _).alloc _).later _ | exact ((hs.alloc _).later _).alloc _ | exact (hs.alloc _).alloc _ | exact ((hs.alloc _).alloc _).later _ | exact (((hs.alloc _).later _).alloc _).later _) (line_ok h0)).onL ?_ | refine (l2Text_any g off n c xs _ (by first | exact hs | exact hs.later _ | exact hs.alloc _ | exact (hs.alloc _).later _ | exact (hs.later _).alloc _ | exact ((hs.later _).alloc _).later _ | exact ((hs.alloc _).later _).alloc _ | exact (hs.alloc _).alloc _ | exact ((hs.alloc _).alloc _).later _ | exact (((hs.alloc _).later _).alloc _).later _) (line_ok h0)).on ?_); intro xq))
    all_goals (go_ret2; exact ⟨by rw [hfin.out]; rfl, (by repeat (with_reducible first | exact hbD | exact Below.refl _ _ | refine bw_later ?_ _ | refine bw_alloc ?_ _ | refine bw_drew ?_ | refine bw_set ?_ (Nat.le_refl _) _ | refine bw_set ?_ ?_ _ | exact Nat.le_refl _ | exact later_size _ _ | refine Nat.le_trans ?_ (later_size _ _) | refine Nat.le_trans ?_ (size_alloc_le _ _) | refine Nat.le_trans ?_ (Nat.le_add_right _ _)))⟩)
theorem law_LineText (A0 : Option Addr) (n0 c0 : Nat) (xs0 : List Sup) (w : World) (rd0 : ASup w A0 n0 xs0 ∧ n0 ≤ 9223372036854775807) (ht : Tab w) : Gv Tryd.prog 8 #[.slice A0 n0 c0] w (.bool true) := by
  obtain ⟨ha0, hm0⟩ := rd0
  unfold Gv
  by_cases k0 : 1048576 < n0
  · have z0 : szF n0 ((1048576 : Int)) = -1 := by unfold szF; rw [if_pos (by omega)]
    go_enter Tryd.func8, Tryd.ntmps8
    go_wp2_with fail
    refine Calls.mono (szSupport_any A0 n0 c0 ((1048576 : Int)) hm0 (by omega) (by omega) _) ?_
    rintro _ w1 ⟨rfl, b1⟩
    have hw := b1
    rw [z0]
    clear z0
    go_wp2_with fail
    go_ret
    exact ⟨rfl, hw⟩
  · have hn0 : n0 ≤ 1048576 := by omega
    have z0 : szF n0 ((1048576 : Int)) = (1048576 : Int) - (n0 : Int) := by unfold szF; rw [if_neg (by omega)]
    go_enter Tryd.func8, Tryd.ntmps8
    go_wp2_with fail
    refine Calls.mono (szSupport_any A0 n0 c0 ((1048576 : Int)) hm0 (by omega) (by omega) _) ?_
    rintro _ w1 ⟨rfl, b1⟩
    replace ha0 := ha0.below2 b1
    have hw := b1
    rw [z0]
    clear z0
    go_wp2_with fail
    refine Calls.mono (toSupportS_any A0 n0 c0 xs0 _ ha0 hn0) ?_
    rintro _ w2 ⟨g2, rfl, q2, hB2, b2⟩
    replace ha0 := ha0.below2 b2
    replace hw := bw_trans hw b2
    go_wp2_with fail
    refine Calls.mono (s_LineText_any g2 0 n0 n0 xs0 _ hB2.reads hn0) ?_
    rintro _ w3 ⟨rfl, b3⟩
    replace ha0 := ha0.below2 b3
    replace hB2 := hB2.below2 b3
    replace hw := bw_trans hw b3
    go_wp2_with fail
    refine Calls.mono (toSupportS_any A0 n0 c0 xs0 _ ha0 hn0) ?_
    rintro _ w4 ⟨g4, rfl, q4, hB4, b4⟩
    replace ha0 := ha0.below2 b4
    replace hB2 := hB2.below2 b4
    replace hw := bw_trans hw b4
    go_wp2_with fail
    refine Calls.mono (i_LineText_any g4 0 n0 n0 xs0 _ hB4.reads hn0 (ht.keep hw)) ?_
    rintro _ w5 ⟨rfl, b5⟩
    replace ha0 := ha0.below2 b5
    replace hB2 := hB2.below2 b5
    replace hB4 := hB4.below2 b5
    replace hw := bw_trans hw b5
    go_wp2_with fail
    refine Calls.mono (toSupportS_any A0 n0 c0 xs0 _ ha0 hn0) ?_
    rintro _ w6 ⟨g6, rfl, q6, hB6, b6⟩
    replace ha0 := ha0.below2 b6
    replace hB2 := hB2.below2 b6
    replace hB4 := hB4.below2 b6
    replace hw := bw_trans hw b6
    go_wp2_with fail
    refine Calls.mono (eqSupportS_any _ _ n0 n0 n0 n0 xs0 xs0 _ (ASup.of hB4.reads) (ASup.of hB6.reads) hn0 hn0) ?_
    rintro _ w7 ⟨rfl, b7⟩
    replace ha0 := ha0.below2 b7
    replace hB2 := hB2.below2 b7
    replace hB4 := hB4.below2 b7
    replace hB6 := hB6.below2 b7
    replace hw := bw_trans hw b7
    go_wp2_with fail
    go_ret
    exact ⟨rfl, hw⟩
end Go.Proofs.YteakffedlojcmaaDoor
