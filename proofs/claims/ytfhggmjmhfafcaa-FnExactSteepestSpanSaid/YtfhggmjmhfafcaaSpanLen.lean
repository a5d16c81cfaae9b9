/- The lengths of the spans of a line. -/
import Derived.Test.YtfhggmjmhfafcaaSpan
import Derived.Test.YtfhggmjmhfafcaaPush
import Derived.Test.YtfhggmjmhfafcaaMark
import Derived.Test.YtfhggmjmhfafcaaRegion
namespace Go.Proofs.Ytfhggmjmhfafcaa
open Go.RowKit
theorem infoInt' : (Try.prog.info? 3).map (fun i => (i.zero, i.size, i.bytes)) = some (some (.int .i64 0), 1, 8) := by kernel_rfl
def atAt (xs : List Sup) (i : Nat) : Int := (supAt xs i).at_
theorem atAt_of {xs : List Sup} {i : Nat} {r : Sup} (h : xs[i]? = some r) : atAt xs i = r.at_ := by simp [atAt, supAt_of h]
def lensTo (xs : List Sup) (k : Nat) : List Int := (List.range k).map fun i => atAt xs (i + 1) - atAt xs i
theorem lens_len (xs : List Sup) (k : Nat) : (lensTo xs k).length = k := by simp [lensTo]
theorem lens_at (xs : List Sup) {k i : Nat} (h : i < k) : (lensTo xs k)[i]? = some (atAt xs (i + 1) - atAt xs i) := by simp [lensTo, List.getElem?_range h]
theorem lens_succ {xs : List Sup} {k : Nat} {q r : Sup} (hq : xs[k]? = some q) (hr : xs[k + 1]? = some r) : lensTo xs (k + 1) = lensTo xs k ++ [r.at_ - q.at_] := by
  simp [lensTo, List.range_succ, atAt_of hq, atAt_of hr]
def lensF (xs : List Sup) : List Int × Bool := if okLine xs then (lensTo xs (xs.length - 1), true) else ([], false)
/-- A call hands back a slice that reads as the list, new or empty. -/
def IntsOne (w : World) (xs : List Int) (e : Ending) (w' : World) : Prop :=
  ∃ A m d, e = .returned (.slice A m d) ∧ OI w' w.heap.size w'.heap.size A m xs ∧ m ≤ 1048576 ∧ Below w.heap.size w w'
theorem IntsOne.some_ {w w' : World} {T n : Nat} {v : Value} {xs : List Int} (h : w'.ownsRow w.heap.size T 1 v n (xs.map (Value.int .i64))) (hn : n ≤ 1048576) (hb : Below w.heap.size w w') : IntsOne w xs (.returned v) w' := by
  obtain ⟨A, c, rfl, ho⟩ := OI_of_own h
  exact ⟨A, n, c, rfl, ho, hn, hb⟩
theorem i_spanLengths_any (g off n c : Nat) (xs : List Sup) (w : World) (hs : SSup w g off n xs) (hL0 : LineOk xs) : Calls Try.prog 44 #[.slice (some ⟨g, off, none⟩) n c] w (IntsOne w (lensTo xs (n - 1))) := by
  obtain ⟨i0, hi, hz0, hz1, hz2⟩ := info_parts infoInt'
  have Hi := Lib.hid hi
  have Hz0 := Lib.hid hz0
  have Hz1 := Lib.hid hz1
  have Hz2 := Lib.hid hz2
  clear hi hz0 hz1 hz2
  have hl := Lib.hid hs.2.1
  have hg := hs.1
  have hL := Lib.hid hL0
  have h28 := hL0.len
  rw [hs.2.1] at h28
  clear hL0
  go_enter Try.func44, Try.ntmps44
  go_wp2
  go_loopw [3, 4] (fun t i wr => ∃ k : Nat, 1 ≤ k ∧ k ≤ n ∧ i = .int .i64 (k : Int) ∧ Below w.heap.size w wr ∧ wr.ownsRow w.heap.size 3 1 t (k - 1) ((lensTo xs (k - 1)).map (Value.int .i64))) (fun _ i _ => n - (intOf i).toNat)
  case atStart => exact ⟨1, by omega, by omega, rfl, (by repeat (with_reducible first | exact Below.refl _ _ | refine bw_later ?_ _ | refine bw_alloc ?_ _ | refine bw_drew ?_ | refine bw_set ?_ (Nat.le_refl _) _ | refine bw_set ?_ ?_ _ | exact Nat.le_refl _ | exact later_size _ _ | refine Nat.le_trans ?_ (later_size _ _) | refine Nat.le_trans ?_ (size_alloc_le _ _) | refine Nat.le_trans ?_ (Nat.le_add_right _ _))), World.ownsRow_made _ #[] 0 (Nat.le_refl _) (by decide) rfl⟩
  case round =>
    obtain ⟨k1, hk1, hk, rfl, hbw, hown⟩ := hrel
    obtain ⟨y, rfl⟩ := exists_later hbw
    clear hbw
    obtain ⟨k, rfl⟩ : ∃ k, k1 = k + 1 := ⟨k1 - 1, by omega⟩
    have hgy := lt_later _ y g hg
    simp only [Nat.add_sub_cancel] at hown
    by_cases hlt : k + 1 < n
    · obtain ⟨r, hr0⟩ := hs.at_ (k := k + 1) hlt
      obtain ⟨q, hq0⟩ := hs.at_ (k := k) (by omega)
      obtain ⟨r0, -, -⟩ := hs.2.2 (k + 1) r hr0
      obtain ⟨q0, -, -⟩ := hs.2.2 k q hq0
      obtain ⟨⟨b1, b2⟩, -⟩ := hL.out.bd _ _ hr0
      obtain ⟨⟨b3, b4⟩, -⟩ := hL.out.bd _ _ hq0
      have hr := Lib.hid hr0
      have hq := Lib.hid hq0
      have kn : k < n := by omega
      have i1 : (0 : Int) ≤ (k : Int) + 1 := by omega
      have i2 : (k : Int) + 1 < (n : Int) := by omega
      have i3 : (k : Int) < (n : Int) := by omega
      clear hr0 hq0
      go_wp2
      (refine wp_region_C (Below (w).heap.size (w)) (by kernel_rfl) ?_)
      ((refine step_read (i := 0) (by kernel_rfl) (by kernel_rfl) rfl (by repeat (with_reducible first | exact Below.refl _ _ | refine bw_later ?_ _ | refine bw_alloc ?_ _ | refine bw_drew ?_ | refine bw_set ?_ (Nat.le_refl _) _ | refine bw_set ?_ ?_ _ | exact Nat.le_refl _ | exact later_size _ _ | refine Nat.le_trans ?_ (later_size _ _) | refine Nat.le_trans ?_ (size_alloc_le _ _) | refine Nat.le_trans ?_ (Nat.le_add_right _ _))) rfl (fun K hK => ?_); apply Exists.intro; refine ⟨fun x => ?_, ?_⟩; focus (go_simp; (try go_bits); (try go_simp); (try rfl))); (go_simp; (try go_bits); refine hK _ ?_; clear hK K); (refine step_read (i := 1) (by kernel_rfl) (by kernel_rfl) rfl (by repeat (with_reducible first | exact Below.refl _ _ | refine bw_later ?_ _ | refine bw_alloc ?_ _ | refine bw_drew ?_ | refine bw_set ?_ (Nat.le_refl _) _ | refine bw_set ?_ ?_ _ | exact Nat.le_refl _ | exact later_size _ _ | refine Nat.le_trans ?_ (later_size _ _) | refine Nat.le_trans ?_ (size_alloc_le _ _) | refine Nat.le_trans ?_ (Nat.le_add_right _ _))) rfl (fun K hK => ?_); apply Exists.intro; refine ⟨fun x => ?_, ?_⟩; focus (go_simp; (try go_bits); (try go_simp); (try rfl))); (go_simp; (try go_bits); refine hK _ ?_; clear hK K); (refine step_read (i := 2) (by kernel_rfl) (by kernel_rfl) rfl (by repeat (with_reducible first | exact Below.refl _ _ | refine bw_later ?_ _ | refine bw_alloc ?_ _ | refine bw_drew ?_ | refine bw_set ?_ (Nat.le_refl _) _ | refine bw_set ?_ ?_ _ | exact Nat.le_refl _ | exact later_size _ _ | refine Nat.le_trans ?_ (later_size _ _) | refine Nat.le_trans ?_ (size_alloc_le _ _) | refine Nat.le_trans ?_ (Nat.le_add_right _ _))) rfl (fun K hK => ?_); apply Exists.intro; refine ⟨fun x => ?_, ?_⟩; focus (go_simp; (try go_bits); (try go_simp); (try rfl))); (go_simp; (try go_bits); refine hK _ ?_; clear hK K); (refine step_read (i := 3) (by kernel_rfl) (by kernel_rfl) rfl (by repeat (with_reducible first | exact Below.refl _ _ | refine bw_later ?_ _ | refine bw_alloc ?_ _ | refine bw_drew ?_ | refine bw_set ?_ (Nat.le_refl _) _ | refine bw_set ?_ ?_ _ | exact Nat.le_refl _ | exact later_size _ _ | refine Nat.le_trans ?_ (later_size _ _) | refine Nat.le_trans ?_ (size_alloc_le _ _) | refine Nat.le_trans ?_ (Nat.le_add_right _ _))) rfl (fun K hK => ?_); apply Exists.intro; refine ⟨fun x => ?_, ?_⟩; focus (go_simp; (try go_bits); (try go_simp); (try rfl))); (go_simp; (try go_bits); refine hK _ ?_; clear hK K); (refine step_read (i := 4) (by kernel_rfl) (by kernel_rfl) rfl (by repeat (with_reducible first | exact Below.refl _ _ | refine bw_later ?_ _ | refine bw_alloc ?_ _ | refine bw_drew ?_ | refine bw_set ?_ (Nat.le_refl _) _ | refine bw_set ?_ ?_ _ | exact Nat.le_refl _ | exact later_size _ _ | refine Nat.le_trans ?_ (later_size _ _) | refine Nat.le_trans ?_ (size_alloc_le _ _) | refine Nat.le_trans ?_ (Nat.le_add_right _ _))) rfl (fun K hK => ?_); apply Exists.intro; refine ⟨fun x => ?_, ?_⟩; focus (go_simp; (try go_bits); (try go_simp); (try rfl))); (go_simp; (try go_bits); refine hK _ ?_; clear hK K); (refine step_read (i := 5) (by kernel_rfl) (by kernel_rfl) rfl (by repeat (with_reducible first | exact Below.refl _ _ | refine bw_later ?_ _ | refine bw_alloc ?_ _ | refine bw_drew ?_ | refine bw_set ?_ (Nat.le_refl _) _ | refine bw_set ?_ ?_ _ | exact Nat.le_refl _ | exact later_size _ _ | refine Nat.le_trans ?_ (later_size _ _) | refine Nat.le_trans ?_ (size_alloc_le _ _) | refine Nat.le_trans ?_ (Nat.le_add_right _ _))) rfl (fun K hK => ?_); apply Exists.intro; refine ⟨fun x => ?_, ?_⟩; focus (go_simp; (try go_bits); (try go_simp); (try rfl))); (go_simp; (try go_bits); refine hK _ ?_; clear hK K); (refine step_read (i := 6) (by kernel_rfl) (by kernel_rfl) rfl (by repeat (with_reducible first | exact Below.refl _ _ | refine bw_later ?_ _ | refine bw_alloc ?_ _ | refine bw_drew ?_ | refine bw_set ?_ (Nat.le_refl _) _ | refine bw_set ?_ ?_ _ | exact Nat.le_refl _ | exact later_size _ _ | refine Nat.le_trans ?_ (later_size _ _) | refine Nat.le_trans ?_ (size_alloc_le _ _) | refine Nat.le_trans ?_ (Nat.le_add_right _ _))) rfl (fun K hK => ?_); apply Exists.intro; refine ⟨fun x => ?_, ?_⟩; focus (go_simp; (try go_bits); (try go_simp); (try rfl))); (go_simp; (try go_bits); refine hK _ ?_; clear hK K); (refine step_read (i := 7) (by kernel_rfl) (by kernel_rfl) rfl (by repeat (with_reducible first | exact Below.refl _ _ | refine bw_later ?_ _ | refine bw_alloc ?_ _ | refine bw_drew ?_ | refine bw_set ?_ (Nat.le_refl _) _ | refine bw_set ?_ ?_ _ | exact Nat.le_refl _ | exact later_size _ _ | refine Nat.le_trans ?_ (later_size _ _) | refine Nat.le_trans ?_ (size_alloc_le _ _) | refine Nat.le_trans ?_ (Nat.le_add_right _ _))) rfl (fun K hK => ?_); apply Exists.intro; refine ⟨fun x => ?_, ?_⟩; focus (go_simp; (try go_bits); (try go_simp); (try rfl))); (go_simp; (try go_bits); refine hK _ ?_; clear hK K); (refine step_read (i := 8) (by kernel_rfl) (by kernel_rfl) rfl (by repeat (with_reducible first | exact Below.refl _ _ | refine bw_later ?_ _ | refine bw_alloc ?_ _ | refine bw_drew ?_ | refine bw_set ?_ (Nat.le_refl _) _ | refine bw_set ?_ ?_ _ | exact Nat.le_refl _ | exact later_size _ _ | refine Nat.le_trans ?_ (later_size _ _) | refine Nat.le_trans ?_ (size_alloc_le _ _) | refine Nat.le_trans ?_ (Nat.le_add_right _ _))) rfl (fun K hK => ?_); apply Exists.intro; refine ⟨fun x => ?_, ?_⟩; focus (go_simp; (try go_bits); (try go_simp); (try rfl))); (go_simp; (try go_bits); refine hK _ ?_; clear hK K); (refine step_read (i := 9) (by kernel_rfl) (by kernel_rfl) rfl (by repeat (with_reducible first | exact Below.refl _ _ | refine bw_later ?_ _ | refine bw_alloc ?_ _ | refine bw_drew ?_ | refine bw_set ?_ (Nat.le_refl _) _ | refine bw_set ?_ ?_ _ | exact Nat.le_refl _ | exact later_size _ _ | refine Nat.le_trans ?_ (later_size _ _) | refine Nat.le_trans ?_ (size_alloc_le _ _) | refine Nat.le_trans ?_ (Nat.le_add_right _ _))) rfl (fun K hK => ?_); apply Exists.intro; refine ⟨fun x => ?_, ?_⟩; focus (go_simp; (try go_bits); (try go_simp); (try rfl))); (go_simp; (try go_bits); refine hK _ ?_; clear hK K); (refine step_read (i := 10) (by kernel_rfl) (by kernel_rfl) rfl (by repeat (with_reducible first | exact Below.refl _ _ | refine bw_later ?_ _ | refine bw_alloc ?_ _ | refine bw_drew ?_ | refine bw_set ?_ (Nat.le_refl _) _ | refine bw_set ?_ ?_ _ | exact Nat.le_refl _ | exact later_size _ _ | refine Nat.le_trans ?_ (later_size _ _) | refine Nat.le_trans ?_ (size_alloc_le _ _) | refine Nat.le_trans ?_ (Nat.le_add_right _ _))) rfl (fun K hK => ?_); apply Exists.intro; refine ⟨fun x => ?_, ?_⟩; focus (go_simp; (try go_bits); (try go_simp); (try rfl))); (go_simp; (try go_bits); refine hK _ ?_; clear hK K); (refine step_read (i := 11) (by kernel_rfl) (by kernel_rfl) rfl (by repeat (with_reducible first | exact Below.refl _ _ | refine bw_later ?_ _ | refine bw_alloc ?_ _ | refine bw_drew ?_ | refine bw_set ?_ (Nat.le_refl _) _ | refine bw_set ?_ ?_ _ | exact Nat.le_refl _ | exact later_size _ _ | refine Nat.le_trans ?_ (later_size _ _) | refine Nat.le_trans ?_ (size_alloc_le _ _) | refine Nat.le_trans ?_ (Nat.le_add_right _ _))) rfl (fun K hK => ?_); apply Exists.intro; refine ⟨fun x => ?_, ?_⟩; focus (go_simp; (try go_bits); (try go_simp); (try rfl))); (go_simp; (try go_bits); refine hK _ ?_; clear hK K); (refine step_read (i := 12) (by kernel_rfl) (by kernel_rfl) rfl (by repeat (with_reducible first | exact Below.refl _ _ | refine bw_later ?_ _ | refine bw_alloc ?_ _ | refine bw_drew ?_ | refine bw_set ?_ (Nat.le_refl _) _ | refine bw_set ?_ ?_ _ | exact Nat.le_refl _ | exact later_size _ _ | refine Nat.le_trans ?_ (later_size _ _) | refine Nat.le_trans ?_ (size_alloc_le _ _) | refine Nat.le_trans ?_ (Nat.le_add_right _ _))) rfl (fun K hK => ?_); apply Exists.intro; refine ⟨fun x => ?_, ?_⟩; focus (go_simp; (try go_bits); (try go_simp); (try rfl))); (go_simp; (try go_bits); refine hK _ ?_; clear hK K))
      (refine step_one (i := 13) (by kernel_rfl) rfl (by repeat (with_reducible first | exact Below.refl _ _ | refine bw_later ?_ _ | refine bw_alloc ?_ _ | refine bw_drew ?_ | refine bw_set ?_ (Nat.le_refl _) _ | refine bw_set ?_ ?_ _ | exact Nat.le_refl _ | exact later_size _ _ | refine Nat.le_trans ?_ (later_size _ _) | refine Nat.le_trans ?_ (size_alloc_le _ _) | refine Nat.le_trans ?_ (Nat.le_add_right _ _))) (fun K hK => ?_); go_wp2; (try refine hK _ _ ?_); (try clear hK K))
      (refine step_one (i := 14) (by kernel_rfl) rfl (by repeat (with_reducible first | exact Below.refl _ _ | refine bw_later ?_ _ | refine bw_alloc ?_ _ | refine bw_drew ?_ | refine bw_set ?_ (Nat.le_refl _) _ | refine bw_set ?_ ?_ _ | exact Nat.le_refl _ | exact later_size _ _ | refine Nat.le_trans ?_ (later_size _ _) | refine Nat.le_trans ?_ (size_alloc_le _ _) | refine Nat.le_trans ?_ (Nat.le_add_right _ _))) (fun K hK => ?_); go_wp2_with ((at_builtin; refine push_law rfl _ _ _ rfl i0 _ 1 8 Try.underlying34 Hi.out Hz0.out Hz1.out Hz2.out rfl (by decide) _ _ _ rfl (by first | exact hown | (rw [← later_drew]; exact hown)) (by repeat (with_reducible first | exact Below.refl _ _ | refine bw_later ?_ _ | refine bw_alloc ?_ _ | refine bw_drew ?_ | refine bw_set ?_ (Nat.le_refl _) _ | refine bw_set ?_ ?_ _ | exact Nat.le_refl _ | exact later_size _ _ | refine Nat.le_trans ?_ (later_size _ _) | refine Nat.le_trans ?_ (size_alloc_le _ _) | refine Nat.le_trans ?_ (Nat.le_add_right _ _))) _ (by simp) rfl rfl (by simp [Value.oneCell']) (by omega) (by omega) ?_; intro v1 y1 hown1)); (try refine hK _ _ ?_); (try clear hK K))
      (refine step_one (i := 15) (by kernel_rfl) rfl (by repeat (with_reducible first | exact Below.refl _ _ | refine bw_later ?_ _ | refine bw_alloc ?_ _ | refine bw_drew ?_ | refine bw_set ?_ (Nat.le_refl _) _ | refine bw_set ?_ ?_ _ | exact Nat.le_refl _ | exact later_size _ _ | refine Nat.le_trans ?_ (later_size _ _) | refine Nat.le_trans ?_ (size_alloc_le _ _) | refine Nat.le_trans ?_ (Nat.le_add_right _ _))) (fun K hK => ?_); go_wp2; (try refine hK _ _ ?_); (try clear hK K))
      (refine step_end (by kernel_rfl) (by repeat (with_reducible first | exact Below.refl _ _ | refine bw_later ?_ _ | refine bw_alloc ?_ _ | refine bw_drew ?_ | refine bw_set ?_ (Nat.le_refl _) _ | refine bw_set ?_ ?_ _ | exact Nat.le_refl _ | exact later_size _ _ | refine Nat.le_trans ?_ (later_size _ _) | refine Nat.le_trans ?_ (size_alloc_le _ _) | refine Nat.le_trans ?_ (Nat.le_add_right _ _))) ?_)
      go_wp2
      go_roundw
      case rel => exact ⟨k + 1 + 1, by omega, by omega, by go_num, (by repeat (with_reducible first | exact Below.refl _ _ | refine bw_later ?_ _ | refine bw_alloc ?_ _ | refine bw_drew ?_ | refine bw_set ?_ (Nat.le_refl _) _ | refine bw_set ?_ ?_ _ | exact Nat.le_refl _ | exact later_size _ _ | refine Nat.le_trans ?_ (later_size _ _) | refine Nat.le_trans ?_ (size_alloc_le _ _) | refine Nat.le_trans ?_ (Nat.le_add_right _ _))), by rw [Nat.add_sub_cancel, lens_succ hq.out hr.out, List.map_append]; exact hown1⟩
      case measure => simp [intOf]; omega
    · obtain rfl : n = k + 1 := by omega
      go_wp2
      go_ret
      exact IntsOne.some_ hown (by omega) (by repeat (with_reducible first | exact Below.refl _ _ | refine bw_later ?_ _ | refine bw_alloc ?_ _ | refine bw_drew ?_ | refine bw_set ?_ (Nat.le_refl _) _ | refine bw_set ?_ ?_ _ | exact Nat.le_refl _ | exact later_size _ _ | refine Nat.le_trans ?_ (later_size _ _) | refine Nat.le_trans ?_ (size_alloc_le _ _) | refine Nat.le_trans ?_ (Nat.le_add_right _ _)))
theorem s_SpanLengths_any (g off n c : Nat) (xs : List Sup) (w : World) (hs : SSup w g off n xs) (hn : n ≤ 1048576) : GI Try.prog 20 #[.slice (some ⟨g, off, none⟩) n c] w (lensF xs) := by
  unfold GI
  obtain ⟨i0, hi, hz0, hz1, hz2⟩ := info_parts infoInt'
  have Hi := Lib.hid hi
  have Hz0 := Lib.hid hz0
  have Hz1 := Lib.hid hz1
  have Hz2 := Lib.hid hz2
  clear hi hz0 hz1 hz2
  cases h0 : okLine xs
  · have hfin := Lib.hid (show lensF xs = ([], false) by simp [lensF, h0])
    go_enter Try.func20, Try.ntmps20
    go_wp2_with (first | (go_at_call 35; (first | refine (l2Line_any g off n c xs _ (by first | exact hs | exact hs.later _ | exact hs.alloc _ | exact (hs.alloc _).later _ | exact (hs.later _).alloc _ | exact ((hs.later _).alloc _).later _ | exact ((hs.alloc _).later _).alloc _ | exact (hs.alloc _).alloc _ | exact ((hs.alloc _).alloc _).later _ | exact (((hs.alloc _).later _).alloc _).later _) hn).onL ?_ | refine (l2Line_any g off n c xs _ (by first | exact hs | exact hs.later _ | exact hs.alloc _ | exact (hs.alloc _).later _ | exact (hs.later _).alloc _ | exact ((hs.later _).alloc _).later _ | exact ((hs.alloc _).later _).alloc _ | exact (hs.alloc _).alloc _ | exact ((hs.alloc _).alloc _).later _ | exact (((hs.alloc _).later _).alloc _).later _) hn).on ?_); intro xq))
    all_goals (go_ret2; rw [hfin.out]; exact IntsB.none_ (by repeat (with_reducible first | exact Below.refl _ _ | refine bw_later ?_ _ | refine bw_alloc ?_ _ | refine bw_drew ?_ | refine bw_set ?_ (Nat.le_refl _) _ | refine bw_set ?_ ?_ _ | exact Nat.le_refl _ | exact later_size _ _ | refine Nat.le_trans ?_ (later_size _ _) | refine Nat.le_trans ?_ (size_alloc_le _ _) | refine Nat.le_trans ?_ (Nat.le_add_right _ _))))
  have hfin := Lib.hid (show lensF xs = (lensTo xs (n - 1), true) by simp [lensF, h0, hs.2.1])
  have hl := Lib.hid hs.2.1
  have hg := hs.1
  have hL := Lib.hid (line_ok h0)
  have h28 := (line_ok h0).len
  rw [hs.2.1] at h28
  go_enter Try.func20, Try.ntmps20
  go_wp2_with (first | (go_at_call 35; (first | refine (l2Line_any g off n c xs _ (by first | exact hs | exact hs.later _ | exact hs.alloc _ | exact (hs.alloc _).later _ | exact (hs.later _).alloc _ | exact ((hs.later _).alloc _).later _ | exact ((hs.alloc _).later _).alloc _ | exact (hs.alloc _).alloc _ | exact ((hs.alloc _).alloc _).later _ | exact (((hs.alloc _).later _).alloc _).later _) hn).onL ?_ | refine (l2Line_any g off n c xs _ (by first | exact hs | exact hs.later _ | exact hs.alloc _ | exact (hs.alloc _).later _ | exact (hs.later _).alloc _ | exact ((hs.later _).alloc _).later _ | exact ((hs.alloc _).later _).alloc _ | exact (hs.alloc _).alloc _ | exact ((hs.alloc _).alloc _).later _ | exact (((hs.alloc _).later _).alloc _).later _) hn).on ?_); intro xq))
  clear h0
  go_loopw [4, 5] (fun t i wr => ∃ k : Nat, 1 ≤ k ∧ k ≤ n ∧ i = .int .i64 (k : Int) ∧ Below w.heap.size w wr ∧ wr.ownsRow w.heap.size 3 1 t (k - 1) ((lensTo xs (k - 1)).map (Value.int .i64))) (fun _ i _ => n - (intOf i).toNat)
  case atStart => exact ⟨1, by omega, by omega, rfl, (by repeat (with_reducible first | exact Below.refl _ _ | refine bw_later ?_ _ | refine bw_alloc ?_ _ | refine bw_drew ?_ | refine bw_set ?_ (Nat.le_refl _) _ | refine bw_set ?_ ?_ _ | exact Nat.le_refl _ | exact later_size _ _ | refine Nat.le_trans ?_ (later_size _ _) | refine Nat.le_trans ?_ (size_alloc_le _ _) | refine Nat.le_trans ?_ (Nat.le_add_right _ _))), (World.ownsRow_made w #[] 0 (Nat.le_refl _) (by decide) rfl).kept (grown_later _ _ none) (by simp [Value.ownBlock])⟩
  case round =>
    obtain ⟨k1, hk1, hk, rfl, hbw, hown⟩ := hrel
    obtain ⟨y, rfl⟩ := exists_later hbw
    clear hbw
    obtain ⟨k, rfl⟩ : ∃ k, k1 = k + 1 := ⟨k1 - 1, by omega⟩
    have hgy := lt_later _ y g hg
    simp only [Nat.add_sub_cancel] at hown
    by_cases hlt : k + 1 < n
    · obtain ⟨r, hr0⟩ := hs.at_ (k := k + 1) hlt
      obtain ⟨q, hq0⟩ := hs.at_ (k := k) (by omega)
      obtain ⟨r0, -, -⟩ := hs.2.2 (k + 1) r hr0
      obtain ⟨q0, -, -⟩ := hs.2.2 k q hq0
      obtain ⟨⟨b1, b2⟩, -⟩ := hL.out.bd _ _ hr0
      obtain ⟨⟨b3, b4⟩, -⟩ := hL.out.bd _ _ hq0
      have hr := Lib.hid hr0
      have hq := Lib.hid hq0
      have kn : k < n := by omega
      have i1 : (0 : Int) ≤ (k : Int) + 1 := by omega
      have i2 : (k : Int) + 1 < (n : Int) := by omega
      have i3 : (k : Int) < (n : Int) := by omega
      clear hr0 hq0
      go_wp2
      (refine wp_region_C (Below (w).heap.size (w)) (by kernel_rfl) ?_)
      ((refine step_read (i := 0) (by kernel_rfl) (by kernel_rfl) rfl (by repeat (with_reducible first | exact Below.refl _ _ | refine bw_later ?_ _ | refine bw_alloc ?_ _ | refine bw_drew ?_ | refine bw_set ?_ (Nat.le_refl _) _ | refine bw_set ?_ ?_ _ | exact Nat.le_refl _ | exact later_size _ _ | refine Nat.le_trans ?_ (later_size _ _) | refine Nat.le_trans ?_ (size_alloc_le _ _) | refine Nat.le_trans ?_ (Nat.le_add_right _ _))) rfl (fun K hK => ?_); apply Exists.intro; refine ⟨fun x => ?_, ?_⟩; focus (go_simp; (try go_bits); (try go_simp); (try rfl))); (go_simp; (try go_bits); refine hK _ ?_; clear hK K); (refine step_read (i := 1) (by kernel_rfl) (by kernel_rfl) rfl (by repeat (with_reducible first | exact Below.refl _ _ | refine bw_later ?_ _ | refine bw_alloc ?_ _ | refine bw_drew ?_ | refine bw_set ?_ (Nat.le_refl _) _ | refine bw_set ?_ ?_ _ | exact Nat.le_refl _ | exact later_size _ _ | refine Nat.le_trans ?_ (later_size _ _) | refine Nat.le_trans ?_ (size_alloc_le _ _) | refine Nat.le_trans ?_ (Nat.le_add_right _ _))) rfl (fun K hK => ?_); apply Exists.intro; refine ⟨fun x => ?_, ?_⟩; focus (go_simp; (try go_bits); (try go_simp); (try rfl))); (go_simp; (try go_bits); refine hK _ ?_; clear hK K); (refine step_read (i := 2) (by kernel_rfl) (by kernel_rfl) rfl (by repeat (with_reducible first | exact Below.refl _ _ | refine bw_later ?_ _ | refine bw_alloc ?_ _ | refine bw_drew ?_ | refine bw_set ?_ (Nat.le_refl _) _ | refine bw_set ?_ ?_ _ | exact Nat.le_refl _ | exact later_size _ _ | refine Nat.le_trans ?_ (later_size _ _) | refine Nat.le_trans ?_ (size_alloc_le _ _) | refine Nat.le_trans ?_ (Nat.le_add_right _ _))) rfl (fun K hK => ?_); apply Exists.intro; refine ⟨fun x => ?_, ?_⟩; focus (go_simp; (try go_bits); (try go_simp); (try rfl))); (go_simp; (try go_bits); refine hK _ ?_; clear hK K); (refine step_read (i := 3) (by kernel_rfl) (by kernel_rfl) rfl (by repeat (with_reducible first | exact Below.refl _ _ | refine bw_later ?_ _ | refine bw_alloc ?_ _ | refine bw_drew ?_ | refine bw_set ?_ (Nat.le_refl _) _ | refine bw_set ?_ ?_ _ | exact Nat.le_refl _ | exact later_size _ _ | refine Nat.le_trans ?_ (later_size _ _) | refine Nat.le_trans ?_ (size_alloc_le _ _) | refine Nat.le_trans ?_ (Nat.le_add_right _ _))) rfl (fun K hK => ?_); apply Exists.intro; refine ⟨fun x => ?_, ?_⟩; focus (go_simp; (try go_bits); (try go_simp); (try rfl))); (go_simp; (try go_bits); refine hK _ ?_; clear hK K); (refine step_read (i := 4) (by kernel_rfl) (by kernel_rfl) rfl (by repeat (with_reducible first | exact Below.refl _ _ | refine bw_later ?_ _ | refine bw_alloc ?_ _ | refine bw_drew ?_ | refine bw_set ?_ (Nat.le_refl _) _ | refine bw_set ?_ ?_ _ | exact Nat.le_refl _ | exact later_size _ _ | refine Nat.le_trans ?_ (later_size _ _) | refine Nat.le_trans ?_ (size_alloc_le _ _) | refine Nat.le_trans ?_ (Nat.le_add_right _ _))) rfl (fun K hK => ?_); apply Exists.intro; refine ⟨fun x => ?_, ?_⟩; focus (go_simp; (try go_bits); (try go_simp); (try rfl))); (go_simp; (try go_bits); refine hK _ ?_; clear hK K); (refine step_read (i := 5) (by kernel_rfl) (by kernel_rfl) rfl (by repeat (with_reducible first | exact Below.refl _ _ | refine bw_later ?_ _ | refine bw_alloc ?_ _ | refine bw_drew ?_ | refine bw_set ?_ (Nat.le_refl _) _ | refine bw_set ?_ ?_ _ | exact Nat.le_refl _ | exact later_size _ _ | refine Nat.le_trans ?_ (later_size _ _) | refine Nat.le_trans ?_ (size_alloc_le _ _) | refine Nat.le_trans ?_ (Nat.le_add_right _ _))) rfl (fun K hK => ?_); apply Exists.intro; refine ⟨fun x => ?_, ?_⟩; focus (go_simp; (try go_bits); (try go_simp); (try rfl))); (go_simp; (try go_bits); refine hK _ ?_; clear hK K); (refine step_read (i := 6) (by kernel_rfl) (by kernel_rfl) rfl (by repeat (with_reducible first | exact Below.refl _ _ | refine bw_later ?_ _ | refine bw_alloc ?_ _ | refine bw_drew ?_ | refine bw_set ?_ (Nat.le_refl _) _ | refine bw_set ?_ ?_ _ | exact Nat.le_refl _ | exact later_size _ _ | refine Nat.le_trans ?_ (later_size _ _) | refine Nat.le_trans ?_ (size_alloc_le _ _) | refine Nat.le_trans ?_ (Nat.le_add_right _ _))) rfl (fun K hK => ?_); apply Exists.intro; refine ⟨fun x => ?_, ?_⟩; focus (go_simp; (try go_bits); (try go_simp); (try rfl))); (go_simp; (try go_bits); refine hK _ ?_; clear hK K); (refine step_read (i := 7) (by kernel_rfl) (by kernel_rfl) rfl (by repeat (with_reducible first | exact Below.refl _ _ | refine bw_later ?_ _ | refine bw_alloc ?_ _ | refine bw_drew ?_ | refine bw_set ?_ (Nat.le_refl _) _ | refine bw_set ?_ ?_ _ | exact Nat.le_refl _ | exact later_size _ _ | refine Nat.le_trans ?_ (later_size _ _) | refine Nat.le_trans ?_ (size_alloc_le _ _) | refine Nat.le_trans ?_ (Nat.le_add_right _ _))) rfl (fun K hK => ?_); apply Exists.intro; refine ⟨fun x => ?_, ?_⟩; focus (go_simp; (try go_bits); (try go_simp); (try rfl))); (go_simp; (try go_bits); refine hK _ ?_; clear hK K); (refine step_read (i := 8) (by kernel_rfl) (by kernel_rfl) rfl (by repeat (with_reducible first | exact Below.refl _ _ | refine bw_later ?_ _ | refine bw_alloc ?_ _ | refine bw_drew ?_ | refine bw_set ?_ (Nat.le_refl _) _ | refine bw_set ?_ ?_ _ | exact Nat.le_refl _ | exact later_size _ _ | refine Nat.le_trans ?_ (later_size _ _) | refine Nat.le_trans ?_ (size_alloc_le _ _) | refine Nat.le_trans ?_ (Nat.le_add_right _ _))) rfl (fun K hK => ?_); apply Exists.intro; refine ⟨fun x => ?_, ?_⟩; focus (go_simp; (try go_bits); (try go_simp); (try rfl))); (go_simp; (try go_bits); refine hK _ ?_; clear hK K); (refine step_read (i := 9) (by kernel_rfl) (by kernel_rfl) rfl (by repeat (with_reducible first | exact Below.refl _ _ | refine bw_later ?_ _ | refine bw_alloc ?_ _ | refine bw_drew ?_ | refine bw_set ?_ (Nat.le_refl _) _ | refine bw_set ?_ ?_ _ | exact Nat.le_refl _ | exact later_size _ _ | refine Nat.le_trans ?_ (later_size _ _) | refine Nat.le_trans ?_ (size_alloc_le _ _) | refine Nat.le_trans ?_ (Nat.le_add_right _ _))) rfl (fun K hK => ?_); apply Exists.intro; refine ⟨fun x => ?_, ?_⟩; focus (go_simp; (try go_bits); (try go_simp); (try rfl))); (go_simp; (try go_bits); refine hK _ ?_; clear hK K); (refine step_read (i := 10) (by kernel_rfl) (by kernel_rfl) rfl (by repeat (with_reducible first | exact Below.refl _ _ | refine bw_later ?_ _ | refine bw_alloc ?_ _ | refine bw_drew ?_ | refine bw_set ?_ (Nat.le_refl _) _ | refine bw_set ?_ ?_ _ | exact Nat.le_refl _ | exact later_size _ _ | refine Nat.le_trans ?_ (later_size _ _) | refine Nat.le_trans ?_ (size_alloc_le _ _) | refine Nat.le_trans ?_ (Nat.le_add_right _ _))) rfl (fun K hK => ?_); apply Exists.intro; refine ⟨fun x => ?_, ?_⟩; focus (go_simp; (try go_bits); (try go_simp); (try rfl))); (go_simp; (try go_bits); refine hK _ ?_; clear hK K); (refine step_read (i := 11) (by kernel_rfl) (by kernel_rfl) rfl (by repeat (with_reducible first | exact Below.refl _ _ | refine bw_later ?_ _ | refine bw_alloc ?_ _ | refine bw_drew ?_ | refine bw_set ?_ (Nat.le_refl _) _ | refine bw_set ?_ ?_ _ | exact Nat.le_refl _ | exact later_size _ _ | refine Nat.le_trans ?_ (later_size _ _) | refine Nat.le_trans ?_ (size_alloc_le _ _) | refine Nat.le_trans ?_ (Nat.le_add_right _ _))) rfl (fun K hK => ?_); apply Exists.intro; refine ⟨fun x => ?_, ?_⟩; focus (go_simp; (try go_bits); (try go_simp); (try rfl))); (go_simp; (try go_bits); refine hK _ ?_; clear hK K); (refine step_read (i := 12) (by kernel_rfl) (by kernel_rfl) rfl (by repeat (with_reducible first | exact Below.refl _ _ | refine bw_later ?_ _ | refine bw_alloc ?_ _ | refine bw_drew ?_ | refine bw_set ?_ (Nat.le_refl _) _ | refine bw_set ?_ ?_ _ | exact Nat.le_refl _ | exact later_size _ _ | refine Nat.le_trans ?_ (later_size _ _) | refine Nat.le_trans ?_ (size_alloc_le _ _) | refine Nat.le_trans ?_ (Nat.le_add_right _ _))) rfl (fun K hK => ?_); apply Exists.intro; refine ⟨fun x => ?_, ?_⟩; focus (go_simp; (try go_bits); (try go_simp); (try rfl))); (go_simp; (try go_bits); refine hK _ ?_; clear hK K))
      (refine step_one (i := 13) (by kernel_rfl) rfl (by repeat (with_reducible first | exact Below.refl _ _ | refine bw_later ?_ _ | refine bw_alloc ?_ _ | refine bw_drew ?_ | refine bw_set ?_ (Nat.le_refl _) _ | refine bw_set ?_ ?_ _ | exact Nat.le_refl _ | exact later_size _ _ | refine Nat.le_trans ?_ (later_size _ _) | refine Nat.le_trans ?_ (size_alloc_le _ _) | refine Nat.le_trans ?_ (Nat.le_add_right _ _))) (fun K hK => ?_); go_wp2; (try refine hK _ _ ?_); (try clear hK K))
      (refine step_one (i := 14) (by kernel_rfl) rfl (by repeat (with_reducible first | exact Below.refl _ _ | refine bw_later ?_ _ | refine bw_alloc ?_ _ | refine bw_drew ?_ | refine bw_set ?_ (Nat.le_refl _) _ | refine bw_set ?_ ?_ _ | exact Nat.le_refl _ | exact later_size _ _ | refine Nat.le_trans ?_ (later_size _ _) | refine Nat.le_trans ?_ (size_alloc_le _ _) | refine Nat.le_trans ?_ (Nat.le_add_right _ _))) (fun K hK => ?_); go_wp2_with ((at_builtin; refine push_law rfl _ _ _ rfl i0 _ 1 8 Try.underlying34 Hi.out Hz0.out Hz1.out Hz2.out rfl (by decide) _ _ _ rfl (by first | exact hown | (rw [← later_drew]; exact hown)) (by repeat (with_reducible first | exact Below.refl _ _ | refine bw_later ?_ _ | refine bw_alloc ?_ _ | refine bw_drew ?_ | refine bw_set ?_ (Nat.le_refl _) _ | refine bw_set ?_ ?_ _ | exact Nat.le_refl _ | exact later_size _ _ | refine Nat.le_trans ?_ (later_size _ _) | refine Nat.le_trans ?_ (size_alloc_le _ _) | refine Nat.le_trans ?_ (Nat.le_add_right _ _))) _ (by simp) rfl rfl (by simp [Value.oneCell']) (by omega) (by omega) ?_; intro v1 y1 hown1)); (try refine hK _ _ ?_); (try clear hK K))
      (refine step_one (i := 15) (by kernel_rfl) rfl (by repeat (with_reducible first | exact Below.refl _ _ | refine bw_later ?_ _ | refine bw_alloc ?_ _ | refine bw_drew ?_ | refine bw_set ?_ (Nat.le_refl _) _ | refine bw_set ?_ ?_ _ | exact Nat.le_refl _ | exact later_size _ _ | refine Nat.le_trans ?_ (later_size _ _) | refine Nat.le_trans ?_ (size_alloc_le _ _) | refine Nat.le_trans ?_ (Nat.le_add_right _ _))) (fun K hK => ?_); go_wp2; (try refine hK _ _ ?_); (try clear hK K))
      (refine step_end (by kernel_rfl) (by repeat (with_reducible first | exact Below.refl _ _ | refine bw_later ?_ _ | refine bw_alloc ?_ _ | refine bw_drew ?_ | refine bw_set ?_ (Nat.le_refl _) _ | refine bw_set ?_ ?_ _ | exact Nat.le_refl _ | exact later_size _ _ | refine Nat.le_trans ?_ (later_size _ _) | refine Nat.le_trans ?_ (size_alloc_le _ _) | refine Nat.le_trans ?_ (Nat.le_add_right _ _))) ?_)
      go_wp2
      go_roundw
      case rel => exact ⟨k + 1 + 1, by omega, by omega, by go_num, (by repeat (with_reducible first | exact Below.refl _ _ | refine bw_later ?_ _ | refine bw_alloc ?_ _ | refine bw_drew ?_ | refine bw_set ?_ (Nat.le_refl _) _ | refine bw_set ?_ ?_ _ | exact Nat.le_refl _ | exact later_size _ _ | refine Nat.le_trans ?_ (later_size _ _) | refine Nat.le_trans ?_ (size_alloc_le _ _) | refine Nat.le_trans ?_ (Nat.le_add_right _ _))), by rw [Nat.add_sub_cancel, lens_succ hq.out hr.out, List.map_append]; exact hown1⟩
      case measure => simp [intOf]; omega
    · obtain rfl : n = k + 1 := by omega
      go_wp2
      go_ret2
      rw [hfin.out]
      exact IntsB.some_ hown (by omega) (by repeat (with_reducible first | exact Below.refl _ _ | refine bw_later ?_ _ | refine bw_alloc ?_ _ | refine bw_drew ?_ | refine bw_set ?_ (Nat.le_refl _) _ | refine bw_set ?_ ?_ _ | exact Nat.le_refl _ | exact later_size _ _ | refine Nat.le_trans ?_ (later_size _ _) | refine Nat.le_trans ?_ (size_alloc_le _ _) | refine Nat.le_trans ?_ (Nat.le_add_right _ _)))
theorem i_SpanLengths_any (g off n c : Nat) (xs : List Sup) (w : World) (hs : SSup w g off n xs) (hn : n ≤ 1048576) : GI Try.prog 21 #[.slice (some ⟨g, off, none⟩) n c] w (lensF xs) := by
  unfold GI
  cases h0 : okLine xs
  · have hfin := Lib.hid (show lensF xs = ([], false) by simp [lensF, h0])
    go_enter Try.func21, Try.ntmps21
    go_wp2_with (first | (go_at_call 14; (first | refine (impl_IsLine_any g off n c xs _ (by first | exact hs | exact hs.later _ | exact hs.alloc _ | exact (hs.alloc _).later _ | exact (hs.later _).alloc _ | exact ((hs.later _).alloc _).later _ | exact ((hs.alloc _).later _).alloc _ | exact (hs.alloc _).alloc _ | exact ((hs.alloc _).alloc _).later _ | exact (((hs.alloc _).later _).alloc _).later _) hn).onL ?_ | refine (impl_IsLine_any g off n c xs _ (by first | exact hs | exact hs.later _ | exact hs.alloc _ | exact (hs.alloc _).later _ | exact (hs.later _).alloc _ | exact ((hs.later _).alloc _).later _ | exact ((hs.alloc _).later _).alloc _ | exact (hs.alloc _).alloc _ | exact ((hs.alloc _).alloc _).later _ | exact (((hs.alloc _).later _).alloc _).later _) hn).on ?_); intro xq))
    all_goals (go_ret2; rw [hfin.out]; exact IntsB.none_ (by repeat (with_reducible first | exact Below.refl _ _ | refine bw_later ?_ _ | refine bw_alloc ?_ _ | refine bw_drew ?_ | refine bw_set ?_ (Nat.le_refl _) _ | refine bw_set ?_ ?_ _ | exact Nat.le_refl _ | exact later_size _ _ | refine Nat.le_trans ?_ (later_size _ _) | refine Nat.le_trans ?_ (size_alloc_le _ _) | refine Nat.le_trans ?_ (Nat.le_add_right _ _))))
  have hfin := Lib.hid (show lensF xs = (lensTo xs (n - 1), true) by simp [lensF, h0, hs.2.1])
  go_enter Try.func21, Try.ntmps21
  go_wp2_with (first | (go_at_call 14; (first | refine (impl_IsLine_any g off n c xs _ (by first | exact hs | exact hs.later _ | exact hs.alloc _ | exact (hs.alloc _).later _ | exact (hs.later _).alloc _ | exact ((hs.later _).alloc _).later _ | exact ((hs.alloc _).later _).alloc _ | exact (hs.alloc _).alloc _ | exact ((hs.alloc _).alloc _).later _ | exact (((hs.alloc _).later _).alloc _).later _) hn).onL ?_ | refine (impl_IsLine_any g off n c xs _ (by first | exact hs | exact hs.later _ | exact hs.alloc _ | exact (hs.alloc _).later _ | exact (hs.later _).alloc _ | exact ((hs.later _).alloc _).later _ | exact ((hs.alloc _).later _).alloc _ | exact (hs.alloc _).alloc _ | exact ((hs.alloc _).alloc _).later _ | exact (((hs.alloc _).later _).alloc _).later _) hn).on ?_); intro xq) | (go_at_call 44; refine Calls.mono (i_spanLengths_any g off n c xs _ (by first | exact hs | exact hs.later _ | exact hs.alloc _ | exact (hs.alloc _).later _ | exact (hs.later _).alloc _ | exact ((hs.later _).alloc _).later _ | exact ((hs.alloc _).later _).alloc _ | exact (hs.alloc _).alloc _ | exact ((hs.alloc _).alloc _).later _ | exact (((hs.alloc _).later _).alloc _).later _) (line_ok h0)) ?_; rintro _ w1 ⟨A1, m1, d1, rfl, hO1, l1, b1⟩))
  go_ret2
  rw [hfin.out]
  exact ⟨A1, m1, d1, rfl, hO1.wide (later_size _ _) (Nat.le_refl _), l1, bw_trans (by repeat (with_reducible first | exact Below.refl _ _ | refine bw_later ?_ _ | refine bw_alloc ?_ _ | refine bw_drew ?_ | refine bw_set ?_ (Nat.le_refl _) _ | refine bw_set ?_ ?_ _ | exact Nat.le_refl _ | exact later_size _ _ | refine Nat.le_trans ?_ (later_size _ _) | refine Nat.le_trans ?_ (size_alloc_le _ _) | refine Nat.le_trans ?_ (Nat.le_add_right _ _))) b1⟩
theorem law_SpanLengths (A0 : Option Addr) (n0 c0 : Nat) (xs0 : List Sup) (w : World) (rd0 : ASup w A0 n0 xs0 ∧ n0 ≤ 9223372036854775807) : Gv Try.prog 6 #[.slice A0 n0 c0] w (.bool true) := by
  obtain ⟨ha0, hm0⟩ := rd0
  unfold Gv
  by_cases k0 : 1048576 < n0
  · have zz0 : szF n0 ((1048576 : Int)) = -1 := by unfold szF; rw [if_pos (by omega)]
    go_enter Try.func6, Try.ntmps6
    have hw : Below w.heap.size w w := Below.refl _ _
    go_wp2_with fail
    refine Calls.mono (szSupport_any A0 n0 c0 ((1048576 : Int)) hm0 (by omega) (by omega) _) ?_
    rintro _ w1 ⟨rfl, b1⟩
    replace hw := bw_trans hw b1
    have z1 := b1.size
    rw [zz0]
    clear zz0
    go_wp2_with fail
    go_ret
    exact ⟨rfl, hw⟩
  · have hn0 : n0 ≤ 1048576 := by omega
    have zz0 : szF n0 ((1048576 : Int)) = (1048576 : Int) - (n0 : Int) := by unfold szF; rw [if_neg (by omega)]
    go_enter Try.func6, Try.ntmps6
    have hw : Below w.heap.size w w := Below.refl _ _
    go_wp2_with fail
    refine Calls.mono (szSupport_any A0 n0 c0 ((1048576 : Int)) hm0 (by omega) (by omega) _) ?_
    rintro _ w1 ⟨rfl, b1⟩
    replace hw := bw_trans hw b1
    have z1 := b1.size
    rw [zz0]
    clear zz0
    go_wp2_with fail
    refine Calls.mono (toSupportS_any A0 n0 c0 xs0 _ (ha0.below2 hw) hn0) ?_
    rintro _ w2 ⟨g2, rfl, q2, hB2, b2⟩
    replace hw := bw_trans hw b2
    have z2 := b2.size
    have u2 := hB2.lt
    have hO2 := hB2.own q2 u2
    go_wp2_with fail
    refine Calls.mono (s_SpanLengths_any g2 0 n0 n0 xs0 _ hB2.reads hn0) ?_
    rintro _ w3 ⟨Ar3, m3, d3, rfl, hO3, l3, b3⟩
    replace hO2 := hO2.below2 b3
    replace hw := bw_trans hw b3
    have z3 := b3.size
    replace hB2 := hB2.below2 b3
    go_wp2_with fail
    refine Calls.mono (toSupportS_any A0 n0 c0 xs0 _ (ha0.below2 hw) hn0) ?_
    rintro _ w4 ⟨g4, rfl, q4, hB4, b4⟩
    replace hO3 := hO3.below2 b4
    replace hw := bw_trans hw b4
    have z4 := b4.size
    have u4 := hB4.lt
    have hO4 := hB4.own q4 u4
    go_wp2_with fail
    refine Calls.mono (i_SpanLengths_any g4 0 n0 n0 xs0 _ hB4.reads hn0) ?_
    rintro _ w5 ⟨Ar5, m5, d5, rfl, hO5, l5, b5⟩
    replace hO3 := hO3.below2 b5
    replace hO4 := hO4.below2 b5
    replace hw := bw_trans hw b5
    have z5 := b5.size
    replace hB4 := hB4.below2 b5
    go_wp2_with fail
    refine Calls.mono (eqIntS_any _ _ m5 m3 d5 d3 _ _ _ hO5.reads hO3.reads l5 l3) ?_
    rintro _ w6 ⟨rfl, b6⟩
    replace hO3 := hO3.below2 b6
    replace hO4 := hO4.below2 b6
    replace hO5 := hO5.below2 b6
    replace hw := bw_trans hw b6
    have z6 := b6.size
    go_wp2_with fail
    refine Calls.mono (toSupportS_any A0 n0 c0 xs0 _ (ha0.below2 hw) hn0) ?_
    rintro _ w7 ⟨g7, rfl, q7, hB7, b7⟩
    replace hO3 := hO3.below2 b7
    replace hO4 := hO4.below2 b7
    replace hO5 := hO5.below2 b7
    replace hw := bw_trans hw b7
    have z7 := b7.size
    have u7 := hB7.lt
    have hO7 := hB7.own q7 u7
    go_wp2_with fail
    refine Calls.mono (eqSupportS_any _ _ n0 n0 n0 n0 xs0 xs0 _ hO4.reads hO7.reads hn0 hn0) ?_
    rintro _ w8 ⟨rfl, b8⟩
    replace hO3 := hO3.below2 b8
    replace hO4 := hO4.below2 b8
    replace hO5 := hO5.below2 b8
    replace hO7 := hO7.below2 b8
    replace hw := bw_trans hw b8
    have z8 := b8.size
    go_wp2_with fail
    refine Calls.mono (markSupportS_any _ _ _ n0 n0 1 _ _ hO4 hn0 (by omega) (by omega)) ?_
    rintro _ w9 ⟨rfl, hO4, t9⟩
    replace hO3 := hO3.tch t9 (by omega) (by omega)
    replace hO5 := hO5.tch t9 (by omega) (by omega)
    replace hw := hw.trans (t9.below (B := w.heap.size) (by omega) (by omega))
    have z9 := t9.size
    go_wp2_with fail
    refine Calls.mono (eqIntS_any _ _ m5 m3 d5 d3 _ _ _ hO5.reads hO3.reads l5 l3) ?_
    rintro _ w10 ⟨rfl, b10⟩
    replace hO3 := hO3.below2 b10
    replace hO5 := hO5.below2 b10
    replace hw := bw_trans hw b10
    have z10 := b10.size
    go_wp2_with fail
    refine Calls.mono (markIntS_any _ _ _ m5 d5 1 _ _ hO5 l5 (by omega) (by omega)) ?_
    rintro _ w11 ⟨rfl, hO5, t11⟩
    replace hO3 := hO3.tch t11 (by omega) (by omega)
    replace hw := hw.trans (t11.below (B := w.heap.size) (by omega) (by omega))
    have z11 := t11.size
    go_wp2_with fail
    refine Calls.mono (heldIntS_any _ m5 d5 1 _ hO5.reads l5 (by omega) (by omega)) ?_
    rintro _ w12 ⟨rfl, b12⟩
    replace hO3 := hO3.below2 b12
    replace hO5 := hO5.below2 b12
    replace hw := bw_trans hw b12
    have z12 := b12.size
    go_wp2_with fail
    refine Calls.mono (toSupportS_any A0 n0 c0 xs0 _ (ha0.below2 hw) hn0) ?_
    rintro _ w13 ⟨g13, rfl, q13, hB13, b13⟩
    replace hO3 := hO3.below2 b13
    replace hO5 := hO5.below2 b13
    replace hw := bw_trans hw b13
    have z13 := b13.size
    have u13 := hB13.lt
    have hO13 := hB13.own q13 u13
    go_wp2_with fail
    refine Calls.mono (i_SpanLengths_any g13 0 n0 n0 xs0 _ hB13.reads hn0) ?_
    rintro _ w14 ⟨Ar14, m14, d14, rfl, hO14, l14, b14⟩
    replace hO3 := hO3.below2 b14
    replace hO5 := hO5.below2 b14
    replace hO13 := hO13.below2 b14
    replace hw := bw_trans hw b14
    have z14 := b14.size
    replace hB13 := hB13.below2 b14
    go_wp2_with fail
    refine Calls.mono (eqIntS_any _ _ m14 m3 d14 d3 _ _ _ hO14.reads hO3.reads l14 l3) ?_
    rintro _ w15 ⟨rfl, b15⟩
    replace hO3 := hO3.below2 b15
    replace hO5 := hO5.below2 b15
    replace hO14 := hO14.below2 b15
    replace hw := bw_trans hw b15
    have z15 := b15.size
    go_wp2_with fail
    refine Calls.mono (heldIntS_any _ m5 d5 1 _ hO5.reads l5 (by omega) (by omega)) ?_
    rintro _ w16 ⟨rfl, b16⟩
    replace hO3 := hO3.below2 b16
    replace hO5 := hO5.below2 b16
    replace hO14 := hO14.below2 b16
    replace hw := bw_trans hw b16
    have z16 := b16.size
    go_wp2_with fail
    go_ret
    exact ⟨rfl, hw⟩
end Go.Proofs.Ytfhggmjmhfafcaa
