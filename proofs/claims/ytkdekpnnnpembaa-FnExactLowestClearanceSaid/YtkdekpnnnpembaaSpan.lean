/- Whether a place is on a line; the span with a place. -/
import Derived.Test.YtkdekpnnnpembaaLineFacts
namespace Go.Proofs.Ytkdekpnnnpembaa
open Go.RowKit
theorem i_on_any (g off n c : Nat) (xs : List Sup) (p : Int) (w : World) (hs : SSup w g off n xs) (hn : n ≤ 1048576) : Gv Try.prog 49 #[.slice (some ⟨g, off, none⟩) n c, .int .i64 p] w (.bool (onLine xs p)) := by
  unfold Gv
  have hg := hs.1
  cases hv : okLine xs
  · have hfin := Lib.hid (show onLine xs p = false by simp [onLine, hv])
    go_enter Try.func49, Try.ntmps49
    go_wp2_with (first | (go_at_call 42; (first | refine (impl_IsLine_any g off _ c xs _ hs hn).onL ?_ | refine (impl_IsLine_any g off _ c xs _ hs hn).on ?_); intro xq) | (go_at_call 38; (first | refine (within_any _ _ _ _).onL ?_ | refine (within_any _ _ _ _).on ?_); intro xq))
    go_ret
    exact ⟨by rw [hfin.out]; rfl, (by repeat (with_reducible first | exact Below.refl _ _ | refine bw_later ?_ _ | refine bw_alloc ?_ _ | refine bw_drew ?_ | refine bw_set ?_ (Nat.le_refl _) _ | refine bw_set ?_ ?_ _ | exact Nat.le_refl _ | exact later_size _ _ | refine Nat.le_trans ?_ (later_size _ _) | refine Nat.le_trans ?_ (size_alloc_le _ _) | refine Nat.le_trans ?_ (Nat.le_add_right _ _)))⟩
  · have hL := line_ok hv
    have h28 := hL.len
    have hle := hs.2.1
    obtain ⟨m, rfl⟩ : ∃ m, n = m + 1 := ⟨n - 1, by omega⟩
    obtain ⟨z, hz, ez, e0, e1⟩ := lastAt_is hL
    rw [hle, Nat.add_sub_cancel] at hz
    obtain ⟨l0, -, -⟩ := hs.2.2 m z hz
    have hfin := Lib.hid (show onLine xs p = inB p 0 z.at_ by simp [onLine, hv, ez])
    clear hz ez hle hL
    go_enter Try.func49, Try.ntmps49
    go_wp2_with (first | (go_at_call 42; (first | refine (impl_IsLine_any g off _ c xs _ hs hn).onL ?_ | refine (impl_IsLine_any g off _ c xs _ hs hn).on ?_); intro xq) | (go_at_call 38; (first | refine (within_any _ _ _ _).onL ?_ | refine (within_any _ _ _ _).on ?_); intro xq))
    go_ret
    exact ⟨by rw [hfin.out]; rfl, (by repeat (with_reducible first | exact Below.refl _ _ | refine bw_later ?_ _ | refine bw_alloc ?_ _ | refine bw_drew ?_ | refine bw_set ?_ (Nat.le_refl _) _ | refine bw_set ?_ ?_ _ | exact Nat.le_refl _ | exact later_size _ _ | refine Nat.le_trans ?_ (later_size _ _) | refine Nat.le_trans ?_ (size_alloc_le _ _) | refine Nat.le_trans ?_ (Nat.le_add_right _ _)))⟩
theorem s_on_any (g off n c : Nat) (xs : List Sup) (p : Int) (w : World) (hs : SSup w g off n xs) (hn : n ≤ 1048576) : Gv Try.prog 59 #[.slice (some ⟨g, off, none⟩) n c, .int .i64 p] w (.bool (onLine xs p)) := by
  unfold Gv
  have hg := hs.1
  cases hv : okLine xs
  · have hfin := Lib.hid (show onLine xs p = false by simp [onLine, hv])
    go_enter Try.func59, Try.ntmps59
    go_wp2_with (first | (go_at_call 58; (first | refine (l2Line_any g off _ c xs _ hs hn).onL ?_ | refine (l2Line_any g off _ c xs _ hs hn).on ?_); intro xq) | (go_at_call 46; (first | refine (in_any _ _ _ _).onL ?_ | refine (in_any _ _ _ _).on ?_); intro xq))
    go_ret
    exact ⟨by rw [hfin.out]; rfl, (by repeat (with_reducible first | exact Below.refl _ _ | refine bw_later ?_ _ | refine bw_alloc ?_ _ | refine bw_drew ?_ | refine bw_set ?_ (Nat.le_refl _) _ | refine bw_set ?_ ?_ _ | exact Nat.le_refl _ | exact later_size _ _ | refine Nat.le_trans ?_ (later_size _ _) | refine Nat.le_trans ?_ (size_alloc_le _ _) | refine Nat.le_trans ?_ (Nat.le_add_right _ _)))⟩
  · have hL := line_ok hv
    have h28 := hL.len
    have hle := hs.2.1
    obtain ⟨m, rfl⟩ : ∃ m, n = m + 1 := ⟨n - 1, by omega⟩
    obtain ⟨z, hz, ez, e0, e1⟩ := lastAt_is hL
    rw [hle, Nat.add_sub_cancel] at hz
    obtain ⟨l0, -, -⟩ := hs.2.2 m z hz
    have hfin := Lib.hid (show onLine xs p = inB p 0 z.at_ by simp [onLine, hv, ez])
    clear hz ez hle hL
    go_enter Try.func59, Try.ntmps59
    go_wp2_with (first | (go_at_call 58; (first | refine (l2Line_any g off _ c xs _ hs hn).onL ?_ | refine (l2Line_any g off _ c xs _ hs hn).on ?_); intro xq) | (go_at_call 46; (first | refine (in_any _ _ _ _).onL ?_ | refine (in_any _ _ _ _).on ?_); intro xq))
    go_ret
    exact ⟨by rw [hfin.out]; rfl, (by repeat (with_reducible first | exact Below.refl _ _ | refine bw_later ?_ _ | refine bw_alloc ?_ _ | refine bw_drew ?_ | refine bw_set ?_ (Nat.le_refl _) _ | refine bw_set ?_ ?_ _ | exact Nat.le_refl _ | exact later_size _ _ | refine Nat.le_trans ?_ (later_size _ _) | refine Nat.le_trans ?_ (size_alloc_le _ _) | refine Nat.le_trans ?_ (Nat.le_add_right _ _)))⟩
theorem i_span_same (g off n c : Nat) (xs : List Sup) (p : Int) (w : World) (hs : SSup w g off n xs) (hn : n ≤ 1048576) (ho : onLine xs p = true) : Calls Try.prog 61 #[.slice (some ⟨g, off, none⟩) n c, .int .i64 p] w fun e w' => e = .returned (.int .i64 (spanF xs p : Nat)) ∧ w' = w := by
  have hl := Lib.hid hs.2.1
  have hg := hs.1
  have hlt0 := (span_ok ho).lt
  have h2 : 1 < n := by have := hl.out; omega
  have Ho := Lib.hid ho
  clear ho hlt0
  go_enter Try.func61, Try.ntmps61
  go_wp2
  go_loop [5] (fun i => ∃ k : Nat, k + 1 < n ∧ i = .int .i64 (k : Int) ∧ Hid (∀ j, j < k → ∀ q : Sup, xs[j + 1]? = some q → q.at_ < p)) (fun i => n - (intOf i).toNat)
  case atStart => exact ⟨0, by omega, rfl, fun j hj => absurd hj (by omega)⟩
  case round =>
    obtain ⟨k, hk, rfl, ha⟩ := hrel
    obtain ⟨r, hr0⟩ := hs.at_ (k := k + 1) hk
    obtain ⟨c0, -, -⟩ := hs.2.2 (k + 1) r hr0
    have hr := Lib.hid hr0
    clear hr0
    by_cases hlt : r.at_ < p
    · have hk2 := not_last Ho.out hl.out hr.out hlt
      go_wp2
      go_round
      case rel => exact ⟨k + 1, hk2, by go_num, span_step ha.out hr.out hlt⟩
      case measure => simp [intOf]; omega
    · go_wp2
      go_ret
      exact ⟨ret_int (by unfold spanF; rw [spanI_at hr.out ha.out (by show p ≤ r.at_; omega)]), rfl⟩
theorem i_span_any (g off n c : Nat) (xs : List Sup) (p : Int) (w : World) (hs : SSup w g off n xs) (hn : n ≤ 1048576) (ho : onLine xs p = true) : Gv Try.prog 61 #[.slice (some ⟨g, off, none⟩) n c, .int .i64 p] w (.int .i64 (spanF xs p : Nat)) :=
  Calls.mono (i_span_same g off n c xs p w hs hn ho) fun _ _ ⟨he, hw⟩ => ⟨he, hw ▸ Below.refl _ _⟩
theorem s_span_same (g off n c : Nat) (xs : List Sup) (p : Int) (w : World) (hs : SSup w g off n xs) (hn : n ≤ 1048576) (ho : onLine xs p = true) : Calls Try.prog 60 #[.slice (some ⟨g, off, none⟩) n c, .int .i64 p] w fun e w' => e = .returned (.int .i64 (spanF xs p : Nat)) ∧ w' = w := by
  have hl := Lib.hid hs.2.1
  have hg := hs.1
  have hlt0 := (span_ok ho).lt
  have h2 : 1 < n := by have := hl.out; omega
  have Ho := Lib.hid ho
  clear ho hlt0
  go_enter Try.func60, Try.ntmps60
  go_wp2
  go_loop [5] (fun i => ∃ k : Nat, k + 1 < n ∧ i = .int .i64 (k : Int) ∧ Hid (∀ j, j < k → ∀ q : Sup, xs[j + 1]? = some q → q.at_ < p)) (fun i => n - (intOf i).toNat)
  case atStart => exact ⟨0, by omega, rfl, fun j hj => absurd hj (by omega)⟩
  case round =>
    obtain ⟨k, hk, rfl, ha⟩ := hrel
    obtain ⟨r, hr0⟩ := hs.at_ (k := k + 1) hk
    obtain ⟨c0, -, -⟩ := hs.2.2 (k + 1) r hr0
    have hr := Lib.hid hr0
    clear hr0
    by_cases hlt : r.at_ < p
    · have hk2 := not_last Ho.out hl.out hr.out hlt
      go_wp2
      go_round
      case rel => exact ⟨k + 1, hk2, by go_num, span_step ha.out hr.out hlt⟩
      case measure => simp [intOf]; omega
    · go_wp2
      go_ret
      exact ⟨ret_int (by unfold spanF; rw [spanI_at hr.out ha.out (by show p ≤ r.at_; omega)]), rfl⟩
theorem s_span_any (g off n c : Nat) (xs : List Sup) (p : Int) (w : World) (hs : SSup w g off n xs) (hn : n ≤ 1048576) (ho : onLine xs p = true) : Gv Try.prog 60 #[.slice (some ⟨g, off, none⟩) n c, .int .i64 p] w (.int .i64 (spanF xs p : Nat)) :=
  Calls.mono (s_span_same g off n c xs p w hs hn ho) fun _ _ ⟨he, hw⟩ => ⟨he, hw ▸ Below.refl _ _⟩
end Go.Proofs.Ytkdekpnnnpembaa
