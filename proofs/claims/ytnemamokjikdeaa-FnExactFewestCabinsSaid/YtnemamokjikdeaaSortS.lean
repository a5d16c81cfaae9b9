/- A slice of at most twelve cabins sorted by slices.SortStableFunc. -/
import Derived.Test.YtnemamokjikdeaaDel
import Derived.Shelf.SlSortCmp.InsertionK
namespace Go.Proofs.Ytnemamokjikdeaa
open Go Go.RowKit Go.Sort
def cmpIn (x y : Int) : Int := if x < y then -1 else if y < x then 1 else 0
theorem isNaN_same (x : Int) (w : World) : Calls Try.prog 61 #[.int .i64 x] w fun e w' => e = .returned (.bool false) ∧ w' = w := by
  go_enter Try.func61, Try.ntmps61
  go_wp2
  go_ret
  exact ⟨ret_bool (by simp), rfl⟩
theorem compare_same (x y : Int) (w : World) : Calls Try.prog 56 #[.int .i64 x, .int .i64 y] w fun e w' => e = .returned (.int .i64 (cmpIn x y)) ∧ w' = w := by
  unfold cmpIn
  go_enter Try.func56, Try.ntmps56
  go_wp2_with (go_at_call 61; refine (isNaN_same _ _).mono ?_; rintro e w' ⟨rfl, rfl⟩)
  all_goals
    go_ret
    refine ⟨ret_int ?_, rfl⟩
    (repeat split) <;> first | rfl | omega
def insRen : Go.Shelf.Ren := ⟨fun | 20 => 64 | n => n, fun | 0 => 0 | 3 => 3 | 4 => 4 | 22 => 34 | 24 => 25 | 25 => 61 | n => n, fun n => n⟩
theorem insLay : SlLaysF0.n20 Try.prog insRen := {
  mixed := by kernel_rfl
  f20 := ⟨Try.f64.name, by kernel_rfl, Try.func64.trans (congrArg some (by kernel_rfl))⟩
  t0 := Try.underlying0
  a0 := Try.isAgg0
  z0 := Try.sizeOf0
  v0 := Try.zeroValue0
  t3 := Try.underlying3
  a3 := Try.isAgg3
  z3 := Try.sizeOf3
  v3 := Try.zeroValue3
  t4 := Try.underlying4
  a4 := Try.isAgg4
  z4 := Try.sizeOf4
  v4 := Try.zeroValue4
  t22 := Try.underlying34
  a22 := Try.isAgg34
  z22 := Try.sizeOf34
  v22 := Try.zeroValue34
  t25 := Try.underlying61
  a25 := Try.isAgg61
  z25 := Try.sizeOf61
  v25 := Try.zeroValue61 }
set_option maxHeartbeats 1000000 in
theorem cmp_worn_any (x y : R5) (w : World) : Calls Try.prog 59 #[.agg (R5.cs x).toArray, .agg (R5.cs y).toArray] w fun e w' => e = .returned (.int .i64 (cmpIn y.e x.e)) ∧ ∃ q os', w' = grow (w.drewN q) os' := by
  unfold R5.cs
  have hcon := fun w => compare_same y.e x.e w
  generalize cmpIn y.e x.e = r at hcon ⊢
  go_enter Try.func59, Try.ntmps59
  go_wp2_with (go_at_call 56; refine (hcon _).mono ?_; rintro e w' ⟨rfl, rfl⟩)
  go_ret
  exact ⟨rfl, 0, _, by rw [alloc_eq_grow, alloc_eq_grow, grow_grow]; rfl⟩
theorem lt_worn : ltOf (fun x y : R5 => cmpIn y.e x.e) = (fun a b => decide (((fun r => r.e) b) < ((fun r => r.e) a))) := by
  funext a b
  unfold ltOf cmpIn
  by_cases h : b.e < a.e
  · simp [h]
  · by_cases h2 : a.e < b.e <;> simp [h, h2]
theorem ins_worn_any (g n c : Nat) (xs : List R5) (w : World) (hO : OR5 w g (g + 1) (some ⟨g, 0, none⟩) n xs) (hgl : g < w.heap.size) (hn : n ≤ 12) :
    Calls Try.prog 64 #[.slice (some ⟨g, 0, none⟩) n c, .int .i64 0, .int .i64 (n : Int), .func (.func 59) #[] #[]] w fun e w' => e = .returned (.tuple #[]) ∧ OR5 w' g (g + 1) (some ⟨g, 0, none⟩) n (sortD (fun r => r.e) xs) ∧ Tch w w' g (g + 1) := by
  have e : xs.toArray.size = n := by simpa using hO.1
  have h := AnyQ.insertionSortCmpFunc insLay 5 Try.isAgg25 Try.sizeOf25 R5.cs (fun _ => rfl) (fun x => R5.cs_one x) (fun x y => cmpIn y.e x.e) 59 #[] g 0 c 0 n xs.toArray w (enters_of Try.func59 (by kernel_rfl) rfl) (fun _ _ _ _ x y => cmp_worn_any x y _) hO.holds hgl (Nat.zero_le _) (by omega) (by omega)
  rw [e] at h
  refine Calls.mono h fun en w' ⟨he, m, os, hw⟩ => ⟨he, ?_⟩
  rw [lt_worn] at hw
  have hi := insertion_is (fun r => r.e) xs
  rw [hO.1] at hi
  rw [hi] at hw
  subst hw
  refine ⟨?_, sorted_tch _ _ _ _ _ _ _ _⟩
  rcases Nat.eq_zero_or_pos n with h0 | h0
  · subst h0
    have : xs = [] := List.eq_nil_of_length_eq_zero hO.1
    subst this
    exact ⟨rfl, fun h => absurd h (by omega)⟩
  · exact hO.sorted h0 (by rw [sortD_len]; exact hO.1)
theorem stable_worn_any (g n c : Nat) (xs : List R5) (w : World) (hO : OR5 w g (g + 1) (some ⟨g, 0, none⟩) n xs) (hgl : g < w.heap.size) (hn : n ≤ 12) :
    Calls Try.prog 60 #[.slice (some ⟨g, 0, none⟩) n c, .int .i64 (n : Int), .func (.func 59) #[] #[]] w fun e w' => e = .returned (.tuple #[]) ∧ OR5 w' g (g + 1) (some ⟨g, 0, none⟩) n (sortD (fun r => r.e) xs) ∧ Tch w w' g (g + 1) := by
  have hI := Lib.hid (ins_worn_any g n c xs w hO hgl hn)
  clear hO
  go_enter Try.func60, Try.ntmps60
  go_wp2
  go_loopw [7, 8] (fun a b wr => a = .int .i64 0 ∧ b = .int .i64 20 ∧ wr = w) (fun _ _ _ => 0)
  case atStart => exact ⟨rfl, rfl, rfl⟩
  case round =>
    obtain ⟨rfl, rfl, rfl⟩ := hrel
    have h20 : ¬ (20 : Int) ≤ (n : Int) := by omega
    go_wp2_with (go_at_call 64; refine hI.out.mono ?_; rintro _ w1 ⟨rfl, hO1, hT1⟩)
    go_loopw [6, 7, 8, 9] (fun a b c d wr => a = .int .i64 20 ∧ wr = w1) (fun _ _ _ _ _ => 0)
    case atStart => exact ⟨rfl, rfl⟩
    case round =>
      obtain ⟨rfl, rfl⟩ := hrel
      have h20' : ¬ (20 : Int) < (n : Int) := by omega
      go_wp2
      exact bodyPost_end (v := .tuple #[]) (by simp [results, go_sem]) rfl ⟨rfl, hO1, hT1⟩
theorem sort_worn_any (g n c : Nat) (xs : List R5) (w : World) (hO : OR5 w g (g + 1) (some ⟨g, 0, none⟩) n xs) (hgl : g < w.heap.size) (hn : n ≤ 12) :
    Calls Try.prog 54 #[.slice (some ⟨g, 0, none⟩) n c, .func (.func 59) #[] #[]] w fun e w' => e = .returned (.tuple #[]) ∧ OR5 w' g (g + 1) (some ⟨g, 0, none⟩) n (sortD (fun r => r.e) xs) ∧ Tch w w' g (g + 1) := by
  have hI := Lib.hid (stable_worn_any g n c xs w hO hgl hn)
  clear hO
  go_enter Try.func54, Try.ntmps54
  go_wp2_with (go_at_call 60; refine hI.out.mono ?_; rintro _ w1 ⟨rfl, hO1, hT1⟩)
  exact bodyPost_end (v := .tuple #[]) (by simp [results, go_sem]) rfl ⟨rfl, hO1, hT1⟩
set_option maxHeartbeats 1000000 in
theorem cmp_few_any (x y : R5) (w : World) : Calls Try.prog 55 #[.agg (R5.cs x).toArray, .agg (R5.cs y).toArray] w fun e w' => e = .returned (.int .i64 (cmpIn y.b x.b)) ∧ ∃ q os', w' = grow (w.drewN q) os' := by
  unfold R5.cs
  have hcon := fun w => compare_same y.b x.b w
  generalize cmpIn y.b x.b = r at hcon ⊢
  go_enter Try.func55, Try.ntmps55
  go_wp2_with (go_at_call 56; refine (hcon _).mono ?_; rintro e w' ⟨rfl, rfl⟩)
  go_ret
  exact ⟨rfl, 0, _, by rw [alloc_eq_grow, alloc_eq_grow, grow_grow]; rfl⟩
theorem lt_few : ltOf (fun x y : R5 => cmpIn y.b x.b) = (fun a b => decide (((fun r => r.b) b) < ((fun r => r.b) a))) := by
  funext a b
  unfold ltOf cmpIn
  by_cases h : b.b < a.b
  · simp [h]
  · by_cases h2 : a.b < b.b <;> simp [h, h2]
theorem ins_few_any (g n c : Nat) (xs : List R5) (w : World) (hO : OR5 w g (g + 1) (some ⟨g, 0, none⟩) n xs) (hgl : g < w.heap.size) (hn : n ≤ 12) :
    Calls Try.prog 64 #[.slice (some ⟨g, 0, none⟩) n c, .int .i64 0, .int .i64 (n : Int), .func (.func 55) #[] #[]] w fun e w' => e = .returned (.tuple #[]) ∧ OR5 w' g (g + 1) (some ⟨g, 0, none⟩) n (sortD (fun r => r.b) xs) ∧ Tch w w' g (g + 1) := by
  have e : xs.toArray.size = n := by simpa using hO.1
  have h := AnyQ.insertionSortCmpFunc insLay 5 Try.isAgg25 Try.sizeOf25 R5.cs (fun _ => rfl) (fun x => R5.cs_one x) (fun x y => cmpIn y.b x.b) 55 #[] g 0 c 0 n xs.toArray w (enters_of Try.func55 (by kernel_rfl) rfl) (fun _ _ _ _ x y => cmp_few_any x y _) hO.holds hgl (Nat.zero_le _) (by omega) (by omega)
  rw [e] at h
  refine Calls.mono h fun en w' ⟨he, m, os, hw⟩ => ⟨he, ?_⟩
  rw [lt_few] at hw
  have hi := insertion_is (fun r => r.b) xs
  rw [hO.1] at hi
  rw [hi] at hw
  subst hw
  refine ⟨?_, sorted_tch _ _ _ _ _ _ _ _⟩
  rcases Nat.eq_zero_or_pos n with h0 | h0
  · subst h0
    have : xs = [] := List.eq_nil_of_length_eq_zero hO.1
    subst this
    exact ⟨rfl, fun h => absurd h (by omega)⟩
  · exact hO.sorted h0 (by rw [sortD_len]; exact hO.1)
theorem stable_few_any (g n c : Nat) (xs : List R5) (w : World) (hO : OR5 w g (g + 1) (some ⟨g, 0, none⟩) n xs) (hgl : g < w.heap.size) (hn : n ≤ 12) :
    Calls Try.prog 60 #[.slice (some ⟨g, 0, none⟩) n c, .int .i64 (n : Int), .func (.func 55) #[] #[]] w fun e w' => e = .returned (.tuple #[]) ∧ OR5 w' g (g + 1) (some ⟨g, 0, none⟩) n (sortD (fun r => r.b) xs) ∧ Tch w w' g (g + 1) := by
  have hI := Lib.hid (ins_few_any g n c xs w hO hgl hn)
  clear hO
  go_enter Try.func60, Try.ntmps60
  go_wp2
  go_loopw [7, 8] (fun a b wr => a = .int .i64 0 ∧ b = .int .i64 20 ∧ wr = w) (fun _ _ _ => 0)
  case atStart => exact ⟨rfl, rfl, rfl⟩
  case round =>
    obtain ⟨rfl, rfl, rfl⟩ := hrel
    have h20 : ¬ (20 : Int) ≤ (n : Int) := by omega
    go_wp2_with (go_at_call 64; refine hI.out.mono ?_; rintro _ w1 ⟨rfl, hO1, hT1⟩)
    go_loopw [6, 7, 8, 9] (fun a b c d wr => a = .int .i64 20 ∧ wr = w1) (fun _ _ _ _ _ => 0)
    case atStart => exact ⟨rfl, rfl⟩
    case round =>
      obtain ⟨rfl, rfl⟩ := hrel
      have h20' : ¬ (20 : Int) < (n : Int) := by omega
      go_wp2
      exact bodyPost_end (v := .tuple #[]) (by simp [results, go_sem]) rfl ⟨rfl, hO1, hT1⟩
theorem sort_few_any (g n c : Nat) (xs : List R5) (w : World) (hO : OR5 w g (g + 1) (some ⟨g, 0, none⟩) n xs) (hgl : g < w.heap.size) (hn : n ≤ 12) :
    Calls Try.prog 54 #[.slice (some ⟨g, 0, none⟩) n c, .func (.func 55) #[] #[]] w fun e w' => e = .returned (.tuple #[]) ∧ OR5 w' g (g + 1) (some ⟨g, 0, none⟩) n (sortD (fun r => r.b) xs) ∧ Tch w w' g (g + 1) := by
  have hI := Lib.hid (stable_few_any g n c xs w hO hgl hn)
  clear hO
  go_enter Try.func54, Try.ntmps54
  go_wp2_with (go_at_call 60; refine hI.out.mono ?_; rintro _ w1 ⟨rfl, hO1, hT1⟩)
  exact bodyPost_end (v := .tuple #[]) (by simp [results, go_sem]) rfl ⟨rfl, hO1, hT1⟩
end Go.Proofs.Ytnemamokjikdeaa
