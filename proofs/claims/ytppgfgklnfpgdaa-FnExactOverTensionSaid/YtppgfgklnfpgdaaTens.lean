/- The tensions at all supports. -/
import Derived.Test.YtppgfgklnfpgdaaTensPlain
import Derived.Test.YtppgfgklnfpgdaaPushK
import Derived.Laws.OwnMore
namespace Go.Proofs.Ytppgfgklnfpgdaa
open Go.RowKit
theorem infoInt : (Try.prog.info? 3).map (fun i => (i.zero, i.size, i.bytes)) = some (some (.int .i64 0), 1, 8) := by kernel_rfl
theorem own_lower {w : World} {base base' T size n : Nat} {v : Value} {xs : List Value} (h : w.ownsRow base T size v n xs) (h' : base' ≤ base) : w.ownsRow base' T size v n xs :=
  ⟨h.1, h.2.imp id fun ⟨g, cap, cur, e, hb, r⟩ => ⟨g, cap, cur, e, by omega, r⟩⟩
theorem size_of {a b c : World} (h : Below a.heap.size a b) (_ : Below b.heap.size b c) : a.heap.size ≤ b.heap.size := h.size
set_option maxHeartbeats 1000000 in
theorem i_tens_any (g off n c : Nat) (xs : List Sup) (x : R3) (u : Int) (w : World) (hs : SSup w g off n xs) (hL0 : LineOk xs) (hx0 : isCase x = true) (u1 : -1000 ≤ u) (u2 : u ≤ 1000) :
    GI Try.prog 51 #[.slice (some ⟨g, off, none⟩) n c, x.v, .int .i64 u] w (tens xs x u n, tensOk xs x u n) := by
  unfold GI
  obtain ⟨i0, hi, hz0, hz1, hz2⟩ := info_parts infoInt
  have Hi := Lib.hid hi
  have Hz0 := Lib.hid hz0
  have Hz1 := Lib.hid hz1
  have Hz2 := Lib.hid hz2
  clear hi hz0 hz1 hz2
  have hl := Lib.hid hs.2.1
  have hg := hs.1
  have h28 := hL0.len
  rw [hs.2.1] at h28
  obtain ⟨⟨a1, a2⟩, ⟨b1, b2⟩, ⟨c1, c2⟩⟩ := case_bd hx0
  have hL := Lib.hid hL0
  have hx := Lib.hid hx0
  have hu : -1000 ≤ u ∧ u ≤ 1000 := by omega
  obtain ⟨hu1, hu2⟩ := hu
  clear hL0 hx0
  unfold R3.v
  go_enter Try.func51, Try.ntmps51
  go_wp2
  go_loopw [8, 9, 10] (fun t b i wr => ∃ k : Nat, 1 ≤ k ∧ k ≤ n ∧ i = .int .i64 (k : Int) ∧ Below (w.alloc (.cells #[.int .i64 x.a, .int .i64 x.b, .int .i64 x.c] 25)).heap.size (w.alloc (.cells #[.int .i64 x.a, .int .i64 x.b, .int .i64 x.c] 25)) wr ∧ wr.ownsRow (w.alloc (.cells #[.int .i64 x.a, .int .i64 x.b, .int .i64 x.c] 25)).heap.size 3 1 t k ((tens xs x u k).map (Value.int .i64)) ∧ b = .bool (tensOk xs x u k)) (fun _ _ i _ => n - (intOf i).toNat)
  case atStart =>
    refine ⟨1, by omega, by omega, rfl, (by repeat (with_reducible first | exact Below.refl _ _ | refine bw_later ?_ _ | refine bw_alloc ?_ _ | refine bw_drew ?_ | refine bw_set ?_ (Nat.le_refl _) _ | refine bw_set ?_ (by simp) _ | refine bw_set ?_ (by simp; omega) _)), ?_, by rw [tensOk_one hx.out]⟩
    have e : (tens xs x u 1).map (Value.int .i64) = [Value.int .i64 x.b] := by simp [tens, tenAt_zero, List.range_succ]
    rw [e]
    have h := World.ownsRow_lit (size := 1) (e := 3) (base := (w.alloc (.cells #[.int .i64 x.a, .int .i64 x.b, .int .i64 x.c] 25)).heap.size) (w.alloc (.cells #[.int .i64 x.a, .int .i64 x.b, .int .i64 x.c] 25)) #[.int .i64 x.b] 1 (Nat.le_refl _) (by decide) rfl
    simpa using h
  case round =>
    obtain ⟨k, hk1, hk, rfl, hbw, hown, rfl⟩ := hrel
    obtain ⟨y, rfl⟩ := exists_later hbw
    clear hbw
    obtain ⟨j, rfl⟩ : ∃ j, k = j + 1 := ⟨k - 1, by omega⟩
    have hgy : g < (later (w.alloc (.cells #[.int .i64 x.a, .int .i64 x.b, .int .i64 x.c] 25)) y).heap.size := lt_later_1_0 w _ y g hg
    obtain ⟨gb, cap, rfl, hgb1, hgb2⟩ := own_slice hown (by omega)
    by_cases hlt : j + 1 < n
    · obtain ⟨r, hr0⟩ := hs.at_ (k := j + 1) hlt
      obtain ⟨q, hq0⟩ := hs.at_ (k := j) (by omega)
      obtain ⟨-, r1, -⟩ := hs.2.2 (j + 1) r hr0
      obtain ⟨-, q1, -⟩ := hs.2.2 j q hq0
      obtain ⟨-, d1, d2⟩ := hL.out.bd _ _ hr0
      obtain ⟨-, d3, d4⟩ := hL.out.bd _ _ hq0
      have co : (later (w.alloc (.cells #[.int .i64 x.a, .int .i64 x.b, .int .i64 x.c] 25)) y).cell? ⟨gb, j, none⟩ = some (.int .i64 (tenAt xs x u j)) := by
        rw [hown.cellAt j (by omega)]
        simp [tens_at xs x u (show j < j + 1 by omega)]
      obtain ⟨t1, t2⟩ := tenAt_bd (i := j) hL.out hx.out hu1 hu2 (by omega)
      obtain ⟨t3, t4⟩ := tenAt_bd (i := j + 1) hL.out hx.out hu1 hu2 (by omega)
      obtain ⟨p1, p2⟩ := diff_bd (a := x.a) (d := r.h - q.h) (by omega) a2 (by omega) (by omega)
      have he : tenAt xs x u j + x.a * (r.h - q.h) + u = tenAt xs x u (j + 1) := by
        rw [tenAt_succ, hAt_of hr0, hAt_of hq0]
      clear hr0 hq0
      cases hok : tensOk xs x u (j + 1)
      · go_wp2_with (first | ((with_reducible refine wp_region_later (by kernel_rfl) (by kernel_rfl) ?_); (repeat (go_big_quiet_step (fail))); refine wpQuiet_nil ?_; rintro _ ⟨xr, rfl⟩) | (at_builtin; refine push_law rfl _ _ _ rfl i0 _ 1 8 Try.underlying40 Hi.out Hz0.out Hz1.out Hz2.out rfl (by decide) _ _ _ rfl (hown.kept (grown_later _ _ none) (by simp [Value.ownBlock])) (by repeat (with_reducible first | exact Below.refl _ _ | refine bw_later ?_ _ | refine bw_alloc ?_ _ | refine bw_drew ?_ | refine bw_set ?_ (Nat.le_refl _) _ | refine bw_set ?_ (by simp) _ | refine bw_set ?_ (by simp; omega) _)) _ (by simp) rfl rfl (by simp [Value.oneCell']) (by omega) (by omega) ?_; intro v1 y1 hown1))
        all_goals
          go_roundw
          case rel => exact ⟨j + 1 + 1, by omega, by omega, by go_num, (by repeat (with_reducible first | exact Below.refl _ _ | refine bw_later ?_ _ | refine bw_alloc ?_ _ | refine bw_drew ?_ | refine bw_set ?_ (Nat.le_refl _) _ | refine bw_set ?_ (by simp) _ | refine bw_set ?_ (by simp; omega) _)), by rw [tens_succ, List.map_append]; exact hown1, by rw [tensOk_succ, hok]; rfl⟩
          case measure => simp [intOf]; omega
      · cases hp : decide (0 ≤ tenAt xs x u (j + 1))
        all_goals
          go_wp2_with (first | ((with_reducible refine wp_region_later (by kernel_rfl) (by kernel_rfl) ?_); (repeat (go_big_quiet_step (fail))); refine wpQuiet_nil ?_; rintro _ ⟨xr, rfl⟩) | (at_builtin; refine push_law rfl _ _ _ rfl i0 _ 1 8 Try.underlying40 Hi.out Hz0.out Hz1.out Hz2.out rfl (by decide) _ _ _ rfl (hown.kept (grown_later _ _ none) (by simp [Value.ownBlock])) (by repeat (with_reducible first | exact Below.refl _ _ | refine bw_later ?_ _ | refine bw_alloc ?_ _ | refine bw_drew ?_ | refine bw_set ?_ (Nat.le_refl _) _ | refine bw_set ?_ (by simp) _ | refine bw_set ?_ (by simp; omega) _)) _ (by simp) rfl rfl (by simp [Value.oneCell']) (by omega) (by omega) ?_; intro v1 y1 hown1))
          go_roundw
          case rel => exact ⟨j + 1 + 1, by omega, by omega, by go_num, (by repeat (with_reducible first | exact Below.refl _ _ | refine bw_later ?_ _ | refine bw_alloc ?_ _ | refine bw_drew ?_ | refine bw_set ?_ (Nat.le_refl _) _ | refine bw_set ?_ (by simp) _ | refine bw_set ?_ (by simp; omega) _)), by rw [tens_succ, List.map_append]; exact hown1, by rw [tensOk_succ, hok, hp]; rfl⟩
          case measure => simp [intOf]; omega
    · obtain rfl : n = j + 1 := by omega
      go_wp2
      go_ret2
      exact IntsB.some_ (own_lower hown (by simp)) (by omega) (by repeat (with_reducible first | exact Below.refl _ _ | refine bw_later ?_ _ | refine bw_alloc ?_ _ | refine bw_drew ?_ | refine bw_set ?_ (Nat.le_refl _) _ | refine bw_set ?_ (by simp) _ | refine bw_set ?_ (by simp; omega) _))

set_option maxHeartbeats 1000000 in
theorem s_tens_any (g off n c : Nat) (xs : List Sup) (x : R3) (s : Int) (w : World) (hs : SSup w g off n xs) (hL0 : LineOk xs) (hx0 : isCase x = true) (u1 : -1000 ≤ s * x.c) (u2 : s * x.c ≤ 1000) :
    GI Try.prog 47 #[.slice (some ⟨g, off, none⟩) n c, x.v, .int .i64 s] w (tens xs x (s * x.c) n, tensOk xs x (s * x.c) n) := by
  unfold GI
  obtain ⟨i0, hi, hz0, hz1, hz2⟩ := info_parts infoInt
  have Hi := Lib.hid hi
  have Hz0 := Lib.hid hz0
  have Hz1 := Lib.hid hz1
  have Hz2 := Lib.hid hz2
  clear hi hz0 hz1 hz2
  have hl := Lib.hid hs.2.1
  have hg := hs.1
  have h28 := hL0.len
  rw [hs.2.1] at h28
  obtain ⟨⟨a1, a2⟩, ⟨b1, b2⟩, ⟨c1, c2⟩⟩ := case_bd hx0
  have hL := Lib.hid hL0
  have hx := Lib.hid hx0
  have hu : -1000 ≤ (s * x.c) ∧ (s * x.c) ≤ 1000 := by omega
  obtain ⟨hu1, hu2⟩ := hu
  clear hL0 hx0
  unfold R3.v
  go_enter Try.func47, Try.ntmps47
  go_wp2
  go_loopw [8, 9, 10] (fun t b i wr => ∃ k : Nat, 1 ≤ k ∧ k ≤ n ∧ i = .int .i64 (k : Int) ∧ Below (w.alloc (.cells #[.int .i64 x.a, .int .i64 x.b, .int .i64 x.c] 25)).heap.size (w.alloc (.cells #[.int .i64 x.a, .int .i64 x.b, .int .i64 x.c] 25)) wr ∧ wr.ownsRow (w.alloc (.cells #[.int .i64 x.a, .int .i64 x.b, .int .i64 x.c] 25)).heap.size 3 1 t k ((tens xs x (s * x.c) k).map (Value.int .i64)) ∧ b = .bool (tensOk xs x (s * x.c) k)) (fun _ _ i _ => n - (intOf i).toNat)
  case atStart =>
    refine ⟨1, by omega, by omega, rfl, (by repeat (with_reducible first | exact Below.refl _ _ | refine bw_later ?_ _ | refine bw_alloc ?_ _ | refine bw_drew ?_ | refine bw_set ?_ (Nat.le_refl _) _ | refine bw_set ?_ (by simp) _ | refine bw_set ?_ (by simp; omega) _)), ?_, by rw [tensOk_one hx.out]⟩
    have e : (tens xs x (s * x.c) 1).map (Value.int .i64) = [Value.int .i64 x.b] := by simp [tens, tenAt_zero, List.range_succ]
    rw [e]
    have h := World.ownsRow_lit (size := 1) (e := 3) (base := (w.alloc (.cells #[.int .i64 x.a, .int .i64 x.b, .int .i64 x.c] 25)).heap.size) (w.alloc (.cells #[.int .i64 x.a, .int .i64 x.b, .int .i64 x.c] 25)) #[.int .i64 x.b] 1 (Nat.le_refl _) (by decide) rfl
    simpa using h
  case round =>
    obtain ⟨k, hk1, hk, rfl, hbw, hown, rfl⟩ := hrel
    obtain ⟨y, rfl⟩ := exists_later hbw
    clear hbw
    obtain ⟨j, rfl⟩ : ∃ j, k = j + 1 := ⟨k - 1, by omega⟩
    have hgy : g < (later (w.alloc (.cells #[.int .i64 x.a, .int .i64 x.b, .int .i64 x.c] 25)) y).heap.size := lt_later_1_0 w _ y g hg
    obtain ⟨gb, cap, rfl, hgb1, hgb2⟩ := own_slice hown (by omega)
    by_cases hlt : j + 1 < n
    · obtain ⟨r, hr0⟩ := hs.at_ (k := j + 1) hlt
      obtain ⟨q, hq0⟩ := hs.at_ (k := j) (by omega)
      obtain ⟨-, r1, -⟩ := hs.2.2 (j + 1) r hr0
      obtain ⟨-, q1, -⟩ := hs.2.2 j q hq0
      obtain ⟨-, d1, d2⟩ := hL.out.bd _ _ hr0
      obtain ⟨-, d3, d4⟩ := hL.out.bd _ _ hq0
      have co : (later (w.alloc (.cells #[.int .i64 x.a, .int .i64 x.b, .int .i64 x.c] 25)) y).cell? ⟨gb, j, none⟩ = some (.int .i64 (tenAt xs x (s * x.c) j)) := by
        rw [hown.cellAt j (by omega)]
        simp [tens_at xs x (s * x.c) (show j < j + 1 by omega)]
      obtain ⟨t1, t2⟩ := tenAt_bd (i := j) hL.out hx.out hu1 hu2 (by omega)
      obtain ⟨t3, t4⟩ := tenAt_bd (i := j + 1) hL.out hx.out hu1 hu2 (by omega)
      obtain ⟨p1, p2⟩ := diff_bd (a := x.a) (d := r.h - q.h) (by omega) a2 (by omega) (by omega)
      have he : tenAt xs x (s * x.c) j + x.a * (r.h - q.h) + (s * x.c) = tenAt xs x (s * x.c) (j + 1) := by
        rw [tenAt_succ, hAt_of hr0, hAt_of hq0]
      clear hr0 hq0
      cases hok : tensOk xs x (s * x.c) (j + 1)
      · go_wp2_with (first | ((with_reducible refine wp_region_later (by kernel_rfl) (by kernel_rfl) ?_); (repeat (go_big_quiet_step (fail))); refine wpQuiet_nil ?_; rintro _ ⟨xr, rfl⟩) | (at_builtin; refine push_law rfl _ _ _ rfl i0 _ 1 8 Try.underlying40 Hi.out Hz0.out Hz1.out Hz2.out rfl (by decide) _ _ _ rfl (hown.kept (grown_later _ _ none) (by simp [Value.ownBlock])) (by repeat (with_reducible first | exact Below.refl _ _ | refine bw_later ?_ _ | refine bw_alloc ?_ _ | refine bw_drew ?_ | refine bw_set ?_ (Nat.le_refl _) _ | refine bw_set ?_ (by simp) _ | refine bw_set ?_ (by simp; omega) _)) _ (by simp) rfl rfl (by simp [Value.oneCell']) (by omega) (by omega) ?_; intro v1 y1 hown1))
        all_goals
          go_roundw
          case rel => exact ⟨j + 1 + 1, by omega, by omega, by go_num, (by repeat (with_reducible first | exact Below.refl _ _ | refine bw_later ?_ _ | refine bw_alloc ?_ _ | refine bw_drew ?_ | refine bw_set ?_ (Nat.le_refl _) _ | refine bw_set ?_ (by simp) _ | refine bw_set ?_ (by simp; omega) _)), by rw [tens_succ, List.map_append]; exact hown1, by rw [tensOk_succ, hok]; rfl⟩
          case measure => simp [intOf]; omega
      · cases hp : decide (0 ≤ tenAt xs x (s * x.c) (j + 1))
        all_goals
          go_wp2_with (first | ((with_reducible refine wp_region_later (by kernel_rfl) (by kernel_rfl) ?_); (repeat (go_big_quiet_step (fail))); refine wpQuiet_nil ?_; rintro _ ⟨xr, rfl⟩) | (at_builtin; refine push_law rfl _ _ _ rfl i0 _ 1 8 Try.underlying40 Hi.out Hz0.out Hz1.out Hz2.out rfl (by decide) _ _ _ rfl (hown.kept (grown_later _ _ none) (by simp [Value.ownBlock])) (by repeat (with_reducible first | exact Below.refl _ _ | refine bw_later ?_ _ | refine bw_alloc ?_ _ | refine bw_drew ?_ | refine bw_set ?_ (Nat.le_refl _) _ | refine bw_set ?_ (by simp) _ | refine bw_set ?_ (by simp; omega) _)) _ (by simp) rfl rfl (by simp [Value.oneCell']) (by omega) (by omega) ?_; intro v1 y1 hown1))
          go_roundw
          case rel => exact ⟨j + 1 + 1, by omega, by omega, by go_num, (by repeat (with_reducible first | exact Below.refl _ _ | refine bw_later ?_ _ | refine bw_alloc ?_ _ | refine bw_drew ?_ | refine bw_set ?_ (Nat.le_refl _) _ | refine bw_set ?_ (by simp) _ | refine bw_set ?_ (by simp; omega) _)), by rw [tens_succ, List.map_append]; exact hown1, by rw [tensOk_succ, hok, hp]; rfl⟩
          case measure => simp [intOf]; omega
    · obtain rfl : n = j + 1 := by omega
      go_wp2
      go_ret2
      exact IntsB.some_ (own_lower hown (by simp)) (by omega) (by repeat (with_reducible first | exact Below.refl _ _ | refine bw_later ?_ _ | refine bw_alloc ?_ _ | refine bw_drew ?_ | refine bw_set ?_ (Nat.le_refl _) _ | refine bw_set ?_ (by simp) _ | refine bw_set ?_ (by simp; omega) _))
end Go.Proofs.Ytppgfgklnfpgdaa
