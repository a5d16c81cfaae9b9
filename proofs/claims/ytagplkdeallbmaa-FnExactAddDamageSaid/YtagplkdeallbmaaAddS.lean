/- A damage added to a rope's damages: the reference, the law. -/
import Derived.Test.YtagplkdeallbmaaAdd
namespace Go.Proofs.Ytagplkdeallbmaa
open Go Go.RowKit
def sumW (d : R3) (xs : List R3) : Int := match xs[atD d xs]? with
  | some q => wrap64 (d.c + q.c)
  | none => d.c
def putW (d : R3) (xs : List R3) : List R3 := if hitD d xs then xs.take (atD d xs) ++ ⟨d.a, d.b, sumW d xs⟩ :: xs.drop (atD d xs + 1) else xs.take (atD d xs) ++ d :: xs.drop (atD d xs)
theorem okDam_mid {k : R5} {A B : List R3} {x : R3} (h : okDam k (A ++ x :: B) = true) : isDam k x = true := by
  obtain ⟨_, _, hch⟩ := okDam_t h
  exact chain_each hch (k := A.length) (by simp)
theorem addF_ref {k : R5} {xs : List R3} {d : R3} (h : okDam k xs = true) (h1 : 1 ≤ d.c) (hI : I64 d.c) : addF k xs d = if okDam k (putW d xs) then (putW d xs, true) else ([], false) := by
  obtain ⟨hk, _, hch⟩ := okDam_t h
  unfold addF
  rw [h, Bool.true_and]
  cases hd : isDam k d
  · have : okDam k (putW d xs) = false := by
      cases hok : okDam k (putW d xs)
      · rfl
      · exfalso
        unfold putW at hok
        cases hh : hitD d xs
        · rw [hh] at hok
          have := okDam_mid (by simpa using hok)
          rw [this] at hd
          cases hd
        · rw [hh] at hok
          obtain ⟨q, hq, _, _⟩ := hitD_at hh
          have hm := okDam_mid (by simpa using hok)
          have hqc := dam_bd hk (chain_each hch hq)
          have hs : sumW d xs = wrap64 (d.c + q.c) := by unfold sumW; rw [hq]
          rw [hs] at hm
          simp only [isDam, Bool.and_eq_true] at hm
          obtain ⟨⟨m1, m2⟩, m3⟩ := hm
          obtain ⟨m4, m5⟩ := inB_t m3
          obtain ⟨i1, i2⟩ := hI
          obtain ⟨-, -, ⟨-, kc⟩, -, -⟩ := kind_bd hk
          have hw : wrap64 (d.c + q.c) = d.c + q.c := by
            simp only [wrap64] at m4 m5 ⊢
            omega
          rw [hw] at m5
          have : isDam k d = true := by
            simp only [isDam, Bool.and_eq_true]
            exact ⟨⟨m1, m2⟩, by simp [inB]; omega⟩
          rw [this] at hd
          cases hd
    rw [this]
    simp
  · have : putW d xs = putD d xs := by
      unfold putW putD
      cases hh : hitD d xs
      · rfl
      · obtain ⟨q, hq, _, _⟩ := hitD_at hh
        have hqc := dam_bd hk (chain_each hch hq)
        have hdc := dam_bd hk hd
        have hw : sumW d xs = sumD d xs := by
          unfold sumW sumD
          rw [hq]
          simp only [wrap64]
          omega
        have hl := (List.getElem?_eq_some_iff.1 hq).1
        rw [if_pos rfl, if_pos rfl, hw, List.set_eq_take_append_cons_drop, if_pos hl]
    rw [this]
    simp [addOut]
theorem kindDam : ∃ i, RowKind Try.prog 43 59 i (.agg #[.int .i64 0, .int .i64 0, .int .i64 0]) 3 24 := by
  obtain ⟨i0, hi, hz0, hz1, hz2⟩ := info_parts infoDam
  exact ⟨i0, Try.underlying43, hi, hz0, hz1, hz2, rfl, by decide, by decide⟩
theorem settleW {P : Program} {c : Code} {Q : Exit → Act → World → Prop} {a : Act} {R : World → Prop} {W : World} (hF : R W) (h : ∀ W', R W' → Code.wp P c Q a W') : Code.wp P c Q a W := h W hF
/-- The boxes' cells, the damages, in a later world. -/
structure AddW (w W : World) (k : R5) (d : R3) (g off n : Nat) (xs : List R3) : Prop where
  b : Below w.heap.size w W
  s : SR3 W g off n xs
  k0 : W.cell? ⟨w.heap.size, 0, none⟩ = some (.int .i64 k.a)
  k1 : W.cell? ⟨w.heap.size, 1, none⟩ = some (.int .i64 k.b)
  k2 : W.cell? ⟨w.heap.size, 2, none⟩ = some (.int .i64 k.c)
  k3 : W.cell? ⟨w.heap.size, 3, none⟩ = some (.int .i64 k.d)
  k4 : W.cell? ⟨w.heap.size, 4, none⟩ = some (.int .i64 k.e)
  d0 : W.cell? ⟨w.heap.size + 1, 0, none⟩ = some (.int .i64 d.a)
  d1 : W.cell? ⟨w.heap.size + 1, 1, none⟩ = some (.int .i64 d.b)
  d2 : W.cell? ⟨w.heap.size + 1, 2, none⟩ = some (.int .i64 d.c)
  fz : W.frozen? ⟨w.heap.size + 1, 2, none⟩ = false
set_option maxHeartbeats 4000000 in
theorem s_AddDamage_any (k : R5) (g off n : Nat) (xs : List R3) (d : R3) (w : World) (hs : SR3 w g off n xs) (hn : n ≤ 1048576) (hI : I64 d.c) : GR3 Try.prog 38 #[k.v, .slice (some ⟨g, off, none⟩) n n, d.v] w (addF k xs d) := by
  unfold GR3
  have hl := Lib.hid hs.2.1
  have hg := hs.1
  cases h0 : okDam k xs
  · have hfin := Lib.hid (show addF k xs d = ([], false) by simp [addF, h0])
    unfold R5.v R3.v
    go_enter Try.func38, Try.ntmps38
    go_wp2_with (go_at_call 48; (first | refine (l3Good_any k g off n n xs _ (by first | exact hs | exact hs.later _ | exact (hs.alloc _).alloc _ | exact ((hs.alloc _).alloc _).later _) hn).onL ?_ | refine (l3Good_any k g off n n xs _ (by first | exact hs | exact hs.later _ | exact (hs.alloc _).alloc _ | exact ((hs.alloc _).alloc _).later _) hn).on ?_); intro xq)
    all_goals (go_ret2; rw [hfin.out]; exact R3sB.none_ (by repeat (with_reducible first | exact hbD | exact Below.refl _ _ | refine bw_later ?_ _ | refine bw_alloc ?_ _ | refine bw_drew ?_ | refine bw_set ?_ (Nat.le_refl _) _ | refine bw_set ?_ ?_ _ | exact Nat.le_refl _ | exact later_size _ _ | refine Nat.le_trans ?_ (later_size _ _) | refine Nat.le_trans ?_ (size_alloc_le _ _) | refine Nat.le_trans ?_ (Nat.le_add_right _ _))))
  by_cases h1 : d.c < 1
  · have hfin := Lib.hid (show addF k xs d = ([], false) by
      have : isDam k d = false := by
        cases hd : isDam k d
        · rfl
        · have := (dam_bd (okDam_t h0).1 hd).1; omega
      simp [addF, this])
    unfold R5.v R3.v
    go_enter Try.func38, Try.ntmps38
    go_wp2_with (go_at_call 48; (first | refine (l3Good_any k g off n n xs _ (by first | exact hs | exact hs.later _ | exact (hs.alloc _).alloc _ | exact ((hs.alloc _).alloc _).later _) hn).onL ?_ | refine (l3Good_any k g off n n xs _ (by first | exact hs | exact hs.later _ | exact (hs.alloc _).alloc _ | exact ((hs.alloc _).alloc _).later _) hn).on ?_); intro xq)
    all_goals (go_ret2; rw [hfin.out]; exact R3sB.none_ (by repeat (with_reducible first | exact hbD | exact Below.refl _ _ | refine bw_later ?_ _ | refine bw_alloc ?_ _ | refine bw_drew ?_ | refine bw_set ?_ (Nat.le_refl _) _ | refine bw_set ?_ ?_ _ | exact Nat.le_refl _ | exact later_size _ _ | refine Nat.le_trans ?_ (later_size _ _) | refine Nat.le_trans ?_ (size_alloc_le _ _) | refine Nat.le_trans ?_ (Nat.le_add_right _ _))))
  have hfin := Lib.hid (addF_ref h0 (by omega) hI)
  obtain ⟨hk, h15, hch⟩ := okDam_t h0
  have hl0 := hs.2.1
  have hn15 : n ≤ 15 := by omega
  obtain ⟨ik, hKind⟩ := kindDam
  clear hch hk h15 hl0
  unfold R5.v R3.v
  go_enter Try.func38, Try.ntmps38
  go_wp2_with (go_at_call 48; (first | refine (l3Good_any k g off n n xs _ (by first | exact hs | exact hs.later _ | exact (hs.alloc _).alloc _ | exact ((hs.alloc _).alloc _).later _) hn).onL ?_ | refine (l3Good_any k g off n n xs _ (by first | exact hs | exact hs.later _ | exact (hs.alloc _).alloc _ | exact ((hs.alloc _).alloc _).later _) hn).on ?_); intro xq)
  go_loopw [8] (fun i' wr => ∃ i : Nat, Below ((w.alloc (.cells #[.int .i64 k.a, .int .i64 k.b, .int .i64 k.c, .int .i64 k.d, .int .i64 k.e] 25)).alloc (.cells #[.int .i64 d.a, .int .i64 d.b, .int .i64 d.c] 59)).heap.size ((w.alloc (.cells #[.int .i64 k.a, .int .i64 k.b, .int .i64 k.c, .int .i64 k.d, .int .i64 k.e] 25)).alloc (.cells #[.int .i64 d.a, .int .i64 d.b, .int .i64 d.c] 59)) wr ∧ i ≤ n ∧ i' = .int .i64 (i : Int) ∧ Hid (∀ j : Nat, j < i → ∀ q : R3, xs[j]? = some q → cmpD q d < 0)) (fun i' _ => n - (intOf i').toNat)
  case atStart => exact ⟨0, (by repeat (with_reducible first | exact hbD | exact Below.refl _ _ | refine bw_later ?_ _ | refine bw_alloc ?_ _ | refine bw_drew ?_ | refine bw_set ?_ (Nat.le_refl _) _ | refine bw_set ?_ ?_ _ | exact Nat.le_refl _ | exact later_size _ _ | refine Nat.le_trans ?_ (later_size _ _) | refine Nat.le_trans ?_ (size_alloc_le _ _) | refine Nat.le_trans ?_ (Nat.le_add_right _ _))), by omega, rfl, Lib.hid fun j hj => absurd hj (by omega)⟩
  case round =>
    obtain ⟨i, hbw, hi, rfl, ha⟩ := hrel
    obtain ⟨y, rfl⟩ := exists_later hbw
    clear hbw
    have hgy := lt_later _ y g (by simp; omega)
    have hky := lt_later _ y w.heap.size (by simp; omega)
    have hdy := lt_later _ y (w.heap.size + 1) (by simp)
    by_cases hlt : i < n
    · obtain ⟨q, hq0⟩ := hs.at_ hlt
      obtain ⟨c0, c1, c2⟩ := hs.2.2 i q hq0
      have hq := Lib.hid hq0
      clear hq0
      have hcl := cmpD_lt q d
      cases e0 : decide (q.a < d.a)
      · cases e1 : decide (q.a = d.a)
        · have hno := Lib.hid (show ¬ cmpD q d < 0 from of_decide_eq_false (by rw [hcl, e0, e1]; rfl))
          clear hcl
          have hat : atD d xs = i := atD_is (by have := hl.out; omega) ha.out (fun p hp => by rw [hq.out] at hp; cases hp; exact hno.out)
          have hne1 : ¬ q.a = d.a := of_decide_eq_false e1
          have hit : hitD d xs = false := by
            unfold hitD
            rw [hat, hq.out]
            exact decide_eq_false fun h => hne1 (cmpD_0 h).1
          have hput := Lib.hid (show putW d xs = xs.take i ++ d :: xs.drop i by unfold putW; rw [hit, hat]; simp)
          have e1' : (q.a == d.a) = false := by simpa using hne1
          clear hat hit hne1 e1
          have hni : ¬ n = i := by omega
          have hni2 : 0 < n - i := by omega
          have hi2 : (i : Int) ≤ (n : Int) := by omega
          go_wp2_with ((with_reducible refine wp_region_later (by kernel_rfl) (by kernel_rfl) ?_); (repeat (go_big_quiet_step (fail))); refine wpQuiet_nil ?_; rintro _ ⟨xr, rfl⟩)
          cases hok : okDam k (putW d xs)
          · refine settleW (R := fun W => AddW w W k ⟨d.a, d.b, d.c⟩ g off n xs) ?_ ?_
            · exact ⟨(by repeat (with_reducible first | exact hbD | exact Below.refl _ _ | refine bw_later ?_ _ | refine bw_alloc ?_ _ | refine bw_drew ?_ | refine bw_set ?_ (Nat.le_refl _) _ | refine bw_set ?_ ?_ _ | exact Nat.le_refl _ | exact later_size _ _ | refine Nat.le_trans ?_ (later_size _ _) | refine Nat.le_trans ?_ (size_alloc_le _ _) | refine Nat.le_trans ?_ (Nat.le_add_right _ _))), hs.below hg (by repeat (with_reducible first | exact hbD | exact Below.refl _ _ | refine bw_later ?_ _ | refine bw_alloc ?_ _ | refine bw_drew ?_ | refine bw_set ?_ (Nat.le_refl _) _ | refine bw_set ?_ ?_ _ | exact Nat.le_refl _ | exact later_size _ _ | refine Nat.le_trans ?_ (later_size _ _) | refine Nat.le_trans ?_ (size_alloc_le _ _) | refine Nat.le_trans ?_ (Nat.le_add_right _ _))), by go_simp, by go_simp, by go_simp, by go_simp, by go_simp, by go_simp, by go_simp, by go_simp, by go_simp⟩
            intro W7 ⟨hb7, hs7, k0, k1, k2, k3, k4, d0, d1, d2, _⟩
            have Hok := Lib.hid hok
            have hcA : Hid (∀ g c w, SR3 w g 0 (i + 1 + (n - i)) (putW d xs) → Gv Try.prog 48 #[k.v, .slice (some ⟨g, 0, none⟩) (i + 1 + (n - i)) c] w (.bool false)) := Lib.hid fun g c w h => hok ▸ l3Good_any k g 0 (i + 1 + (n - i)) c (putW d xs) w h (by omega)
            clear hok
            have hg7 := hs7.1
            have hl7 := World.block_lt_of_cell? W7 _ k0
            have hm7 := World.block_lt_of_cell? W7 _ d0
            simp only at hl7 hm7
            obtain ⟨yd, hyd⟩ := exists_later (bw_drew (Below.refl W7.heap.size W7))
            have hgd := lt_later _ yd g hg7
            have hld := lt_later _ yd w.heap.size hl7
            have hmd := lt_later _ yd (w.heap.size + 1) hm7
            have kc1 : (i : Int) ≤ (n : Int) := by omega
            have kc3 : (0 : Int) ≤ (i : Int) := by omega
            have hxl := hl.out
            have hF1 : Hid (∀ W, Below W7.heap.size W7 W → ∀ j u, ((xs.take i).flatMap R3.cs)[j]? = some u → W.cell? ((⟨g, off, none⟩ : Addr).add j) = some u) := Lib.hid fun W hb j u hu => by
              rw [← flat_take, List.getElem?_take] at hu
              split at hu
              · exact (hs7.below hs7.1 hb).flat j u hu
              · cases hu
            have hF2 : Hid (∀ W, Below W7.heap.size W7 W → ∀ j u, ((xs.drop (i)).flatMap R3.cs)[j]? = some u → W.cell? ((⟨g, off + i * 3, none⟩ : Addr).add j) = some u) := Lib.hid fun W hb j u hu => by
              rw [← flat_drop, List.getElem?_drop] at hu; have h := (hs7.below hs7.1 hb).flat _ u hu; rw [addr_lit] at h ⊢; rw [← h]; congr 2; omega
            have hl1 : Hid (((xs.take i).flatMap R3.cs).length = i * 3) := Lib.hid (by rw [flat_len R3.cs_len, List.length_take]; omega)
            have hl2 : Hid (((xs.drop (i)).flatMap R3.cs).length = (n - i) * 3) := Lib.hid (by rw [flat_len R3.cs_len, List.length_drop]; omega)
            have hins : Hid ((xs.take i).flatMap R3.cs ++ (#[Value.int .i64 d.a, Value.int .i64 d.b, Value.int .i64 (d.c)] : Array Value).toList ++ (xs.drop (i)).flatMap R3.cs = (putW d xs).flatMap R3.cs) := Lib.hid (by rw [hput.out]; simp [R3.cs])
            have hpl : Hid ((putW d xs).length = i + 1 + (n - i)) := Lib.hid (by rw [hput.out]; simp; omega)
            have ho1 := Lib.hid (R3.one (xs.take i))
            have ho2 := Lib.hid (R3.one (xs.drop (i)))
            clear hxl
            refine wp_region_C (Below W7.heap.size W7) (by kernel_rfl) ?_
            rw [hyd]
            clear hyd
            ((refine step_read (i := 1) (by kernel_rfl) (by kernel_rfl) rfl (by repeat (with_reducible first | exact hbD | exact Below.refl _ _ | refine bw_later ?_ _ | refine bw_alloc ?_ _ | refine bw_drew ?_ | refine bw_set ?_ (Nat.le_refl _) _ | refine bw_set ?_ ?_ _ | exact Nat.le_refl _ | exact later_size _ _ | refine Nat.le_trans ?_ (later_size _ _) | refine Nat.le_trans ?_ (size_alloc_le _ _) | refine Nat.le_trans ?_ (Nat.le_add_right _ _))) rfl (fun K hK => ?_); apply Exists.intro; refine ⟨fun x => ?_, ?_⟩; focus (go_simp; (try go_bits); (try go_simp); (try rfl))); (go_simp; (try go_bits); refine hK _ ?_; clear hK K); (refine step_read (i := 2) (by kernel_rfl) (by kernel_rfl) rfl (by repeat (with_reducible first | exact hbD | exact Below.refl _ _ | refine bw_later ?_ _ | refine bw_alloc ?_ _ | refine bw_drew ?_ | refine bw_set ?_ (Nat.le_refl _) _ | refine bw_set ?_ ?_ _ | exact Nat.le_refl _ | exact later_size _ _ | refine Nat.le_trans ?_ (later_size _ _) | refine Nat.le_trans ?_ (size_alloc_le _ _) | refine Nat.le_trans ?_ (Nat.le_add_right _ _))) rfl (fun K hK => ?_); apply Exists.intro; refine ⟨fun x => ?_, ?_⟩; focus (go_simp; (try go_bits); (try go_simp); (try rfl))); (go_simp; (try go_bits); refine hK _ ?_; clear hK K); (refine step_read (i := 3) (by kernel_rfl) (by kernel_rfl) rfl (by repeat (with_reducible first | exact hbD | exact Below.refl _ _ | refine bw_later ?_ _ | refine bw_alloc ?_ _ | refine bw_drew ?_ | refine bw_set ?_ (Nat.le_refl _) _ | refine bw_set ?_ ?_ _ | exact Nat.le_refl _ | exact later_size _ _ | refine Nat.le_trans ?_ (later_size _ _) | refine Nat.le_trans ?_ (size_alloc_le _ _) | refine Nat.le_trans ?_ (Nat.le_add_right _ _))) rfl (fun K hK => ?_); apply Exists.intro; refine ⟨fun x => ?_, ?_⟩; focus (go_simp; (try go_bits); (try go_simp); (try rfl))); (go_simp; (try go_bits); refine hK _ ?_; clear hK K); (refine step_read (i := 5) (by kernel_rfl) (by kernel_rfl) rfl (by repeat (with_reducible first | exact hbD | exact Below.refl _ _ | refine bw_later ?_ _ | refine bw_alloc ?_ _ | refine bw_drew ?_ | refine bw_set ?_ (Nat.le_refl _) _ | refine bw_set ?_ ?_ _ | exact Nat.le_refl _ | exact later_size _ _ | refine Nat.le_trans ?_ (later_size _ _) | refine Nat.le_trans ?_ (size_alloc_le _ _) | refine Nat.le_trans ?_ (Nat.le_add_right _ _))) rfl (fun K hK => ?_); apply Exists.intro; refine ⟨fun x => ?_, ?_⟩; focus (go_simp; (try go_bits); (try go_simp); (try rfl))); (go_simp; (try go_bits); refine hK _ ?_; clear hK K); (refine step_read (i := 8) (by kernel_rfl) (by kernel_rfl) rfl (by repeat (with_reducible first | exact hbD | exact Below.refl _ _ | refine bw_later ?_ _ | refine bw_alloc ?_ _ | refine bw_drew ?_ | refine bw_set ?_ (Nat.le_refl _) _ | refine bw_set ?_ ?_ _ | exact Nat.le_refl _ | exact later_size _ _ | refine Nat.le_trans ?_ (later_size _ _) | refine Nat.le_trans ?_ (size_alloc_le _ _) | refine Nat.le_trans ?_ (Nat.le_add_right _ _))) rfl (fun K hK => ?_); apply Exists.intro; refine ⟨fun x => ?_, ?_⟩; focus (go_simp; (try go_bits); (try go_simp); (try rfl))); (go_simp; (try go_bits); refine hK _ ?_; clear hK K))
            refine step_app3 hKind (i0 := 0) (i4 := 4) (i9 := 6) (i10 := 7) (i14 := 9) (d0 := 91) (d4 := 95) (d9 := 97) (d10 := 98) (d14 := 100) (tk := 94) (tm := 99) (tx := 96) (k := i) (m := n - i) (N1 := (xs.take i).flatMap R3.cs) (N2 := (xs.drop (i)).flatMap R3.cs) (X := #[.int .i64 d.a, .int .i64 d.b, .int .i64 (d.c)]) (by kernel_rfl) (by kernel_rfl) (by kernel_rfl) (by kernel_rfl) (by kernel_rfl) (by kernel_rfl) (by kernel_rfl) rfl rfl rfl rfl rfl (by decide) (by decide) rfl rfl rfl rfl rfl rfl rfl rfl rfl rfl rfl (by decide) (by simp) (fun ys => rfl) (fun a' w => by go_simp) (fun ys => rfl) (fun a' ha w => by have ha' : a'.tmps[96]?.getD undef = .agg #[.int .i64 d.a, .int .i64 d.b, .int .i64 (d.c)] := (by simpa [Act.eval] using ha); clear ha; go_simp; done) rfl hl1.out (hF1.out _ (by repeat (with_reducible first | exact hbD | exact Below.refl _ _ | refine bw_later ?_ _ | refine bw_alloc ?_ _ | refine bw_drew ?_ | refine bw_set ?_ (Nat.le_refl _) _ | refine bw_set ?_ ?_ _ | exact Nat.le_refl _ | exact later_size _ _ | refine Nat.le_trans ?_ (later_size _ _) | refine Nat.le_trans ?_ (size_alloc_le _ _) | refine Nat.le_trans ?_ (Nat.le_add_right _ _)))) ho1.out rfl hl2.out (hF2.out _ (by repeat (with_reducible first | exact hbD | exact Below.refl _ _ | refine bw_later ?_ _ | refine bw_alloc ?_ _ | refine bw_drew ?_ | refine bw_set ?_ (Nat.le_refl _) _ | refine bw_set ?_ ?_ _ | exact Nat.le_refl _ | exact later_size _ _ | refine Nat.le_trans ?_ (later_size _ _) | refine Nat.le_trans ?_ (size_alloc_le _ _) | refine Nat.le_trans ?_ (Nat.le_add_right _ _)))) ho2.out rfl (fun u hu => by simp at hu; rcases hu with rfl | rfl | rfl <;> rfl) (by omega) (by repeat (with_reducible first | exact hbD | exact Below.refl _ _ | refine bw_later ?_ _ | refine bw_alloc ?_ _ | refine bw_drew ?_ | refine bw_set ?_ (Nat.le_refl _) _ | refine bw_set ?_ ?_ _ | exact Nat.le_refl _ | exact later_size _ _ | refine Nat.le_trans ?_ (later_size _ _) | refine Nat.le_trans ?_ (size_alloc_le _ _) | refine Nat.le_trans ?_ (Nat.le_add_right _ _))) (fun K hK u0 u4 u9 u10 v yv hown => ?_)
            rw [hins.out] at hown
            obtain ⟨go', cap', rfl, hb1, hb2⟩ := own_slice hown (by omega)
            have hown9 := hown
            have hs9 := sr_own hown9 hpl.out
            clear hown
            go_simp
            refine hK _ _ ?_
            clear hK K
            (refine step_one (i := 10) (by kernel_rfl) rfl (by repeat (with_reducible first | exact hbD | exact Below.refl _ _ | refine bw_later ?_ _ | refine bw_alloc ?_ _ | refine bw_drew ?_ | refine bw_set ?_ (Nat.le_refl _) _ | refine bw_set ?_ ?_ _ | exact Nat.le_refl _ | exact later_size _ _ | refine Nat.le_trans ?_ (later_size _ _) | refine Nat.le_trans ?_ (size_alloc_le _ _) | refine Nat.le_trans ?_ (Nat.le_add_right _ _))) (fun K hK => ?_); go_wp2; (try refine hK _ _ ?_); (try clear hK K))
            (refine step_end (by kernel_rfl) (by repeat (with_reducible first | exact hbD | exact Below.refl _ _ | refine bw_later ?_ _ | refine bw_alloc ?_ _ | refine bw_drew ?_ | refine bw_set ?_ (Nat.le_refl _) _ | refine bw_set ?_ ?_ _ | exact Nat.le_refl _ | exact later_size _ _ | refine Nat.le_trans ?_ (later_size _ _) | refine Nat.le_trans ?_ (size_alloc_le _ _) | refine Nat.le_trans ?_ (Nat.le_add_right _ _))) ?_)
            go_wp2_with (go_at_call 48; refine (hcA.out _ _ _ hs9).on ?_; intro xq)
            go_ret2
            rw [hfin.out, Hok.out]
            rw [if_neg (by simp)]
            exact R3sB.none_ (bw_trans (a := w) (b := W7) hb7 (by repeat (with_reducible first | exact hbD | exact Below.refl _ _ | refine bw_later ?_ _ | refine bw_alloc ?_ _ | refine bw_drew ?_ | refine bw_set ?_ (Nat.le_refl _) _ | refine bw_set ?_ ?_ _ | exact Nat.le_refl _ | exact later_size _ _ | refine Nat.le_trans ?_ (later_size _ _) | refine Nat.le_trans ?_ (size_alloc_le _ _) | refine Nat.le_trans ?_ (Nat.le_add_right _ _))))
          · refine settleW (R := fun W => AddW w W k ⟨d.a, d.b, d.c⟩ g off n xs) ?_ ?_
            · exact ⟨(by repeat (with_reducible first | exact hbD | exact Below.refl _ _ | refine bw_later ?_ _ | refine bw_alloc ?_ _ | refine bw_drew ?_ | refine bw_set ?_ (Nat.le_refl _) _ | refine bw_set ?_ ?_ _ | exact Nat.le_refl _ | exact later_size _ _ | refine Nat.le_trans ?_ (later_size _ _) | refine Nat.le_trans ?_ (size_alloc_le _ _) | refine Nat.le_trans ?_ (Nat.le_add_right _ _))), hs.below hg (by repeat (with_reducible first | exact hbD | exact Below.refl _ _ | refine bw_later ?_ _ | refine bw_alloc ?_ _ | refine bw_drew ?_ | refine bw_set ?_ (Nat.le_refl _) _ | refine bw_set ?_ ?_ _ | exact Nat.le_refl _ | exact later_size _ _ | refine Nat.le_trans ?_ (later_size _ _) | refine Nat.le_trans ?_ (size_alloc_le _ _) | refine Nat.le_trans ?_ (Nat.le_add_right _ _))), by go_simp, by go_simp, by go_simp, by go_simp, by go_simp, by go_simp, by go_simp, by go_simp, by go_simp⟩
            intro W7 ⟨hb7, hs7, k0, k1, k2, k3, k4, d0, d1, d2, _⟩
            have Hok := Lib.hid hok
            have hcA : Hid (∀ g c w, SR3 w g 0 (i + 1 + (n - i)) (putW d xs) → Gv Try.prog 48 #[k.v, .slice (some ⟨g, 0, none⟩) (i + 1 + (n - i)) c] w (.bool true)) := Lib.hid fun g c w h => hok ▸ l3Good_any k g 0 (i + 1 + (n - i)) c (putW d xs) w h (by omega)
            clear hok
            have hg7 := hs7.1
            have hl7 := World.block_lt_of_cell? W7 _ k0
            have hm7 := World.block_lt_of_cell? W7 _ d0
            simp only at hl7 hm7
            obtain ⟨yd, hyd⟩ := exists_later (bw_drew (Below.refl W7.heap.size W7))
            have hgd := lt_later _ yd g hg7
            have hld := lt_later _ yd w.heap.size hl7
            have hmd := lt_later _ yd (w.heap.size + 1) hm7
            have kc1 : (i : Int) ≤ (n : Int) := by omega
            have kc3 : (0 : Int) ≤ (i : Int) := by omega
            have hxl := hl.out
            have hF1 : Hid (∀ W, Below W7.heap.size W7 W → ∀ j u, ((xs.take i).flatMap R3.cs)[j]? = some u → W.cell? ((⟨g, off, none⟩ : Addr).add j) = some u) := Lib.hid fun W hb j u hu => by
              rw [← flat_take, List.getElem?_take] at hu
              split at hu
              · exact (hs7.below hs7.1 hb).flat j u hu
              · cases hu
            have hF2 : Hid (∀ W, Below W7.heap.size W7 W → ∀ j u, ((xs.drop (i)).flatMap R3.cs)[j]? = some u → W.cell? ((⟨g, off + i * 3, none⟩ : Addr).add j) = some u) := Lib.hid fun W hb j u hu => by
              rw [← flat_drop, List.getElem?_drop] at hu; have h := (hs7.below hs7.1 hb).flat _ u hu; rw [addr_lit] at h ⊢; rw [← h]; congr 2; omega
            have hl1 : Hid (((xs.take i).flatMap R3.cs).length = i * 3) := Lib.hid (by rw [flat_len R3.cs_len, List.length_take]; omega)
            have hl2 : Hid (((xs.drop (i)).flatMap R3.cs).length = (n - i) * 3) := Lib.hid (by rw [flat_len R3.cs_len, List.length_drop]; omega)
            have hins : Hid ((xs.take i).flatMap R3.cs ++ (#[Value.int .i64 d.a, Value.int .i64 d.b, Value.int .i64 (d.c)] : Array Value).toList ++ (xs.drop (i)).flatMap R3.cs = (putW d xs).flatMap R3.cs) := Lib.hid (by rw [hput.out]; simp [R3.cs])
            have hpl : Hid ((putW d xs).length = i + 1 + (n - i)) := Lib.hid (by rw [hput.out]; simp; omega)
            have ho1 := Lib.hid (R3.one (xs.take i))
            have ho2 := Lib.hid (R3.one (xs.drop (i)))
            clear hxl
            refine wp_region_C (Below W7.heap.size W7) (by kernel_rfl) ?_
            rw [hyd]
            clear hyd
            ((refine step_read (i := 1) (by kernel_rfl) (by kernel_rfl) rfl (by repeat (with_reducible first | exact hbD | exact Below.refl _ _ | refine bw_later ?_ _ | refine bw_alloc ?_ _ | refine bw_drew ?_ | refine bw_set ?_ (Nat.le_refl _) _ | refine bw_set ?_ ?_ _ | exact Nat.le_refl _ | exact later_size _ _ | refine Nat.le_trans ?_ (later_size _ _) | refine Nat.le_trans ?_ (size_alloc_le _ _) | refine Nat.le_trans ?_ (Nat.le_add_right _ _))) rfl (fun K hK => ?_); apply Exists.intro; refine ⟨fun x => ?_, ?_⟩; focus (go_simp; (try go_bits); (try go_simp); (try rfl))); (go_simp; (try go_bits); refine hK _ ?_; clear hK K); (refine step_read (i := 2) (by kernel_rfl) (by kernel_rfl) rfl (by repeat (with_reducible first | exact hbD | exact Below.refl _ _ | refine bw_later ?_ _ | refine bw_alloc ?_ _ | refine bw_drew ?_ | refine bw_set ?_ (Nat.le_refl _) _ | refine bw_set ?_ ?_ _ | exact Nat.le_refl _ | exact later_size _ _ | refine Nat.le_trans ?_ (later_size _ _) | refine Nat.le_trans ?_ (size_alloc_le _ _) | refine Nat.le_trans ?_ (Nat.le_add_right _ _))) rfl (fun K hK => ?_); apply Exists.intro; refine ⟨fun x => ?_, ?_⟩; focus (go_simp; (try go_bits); (try go_simp); (try rfl))); (go_simp; (try go_bits); refine hK _ ?_; clear hK K); (refine step_read (i := 3) (by kernel_rfl) (by kernel_rfl) rfl (by repeat (with_reducible first | exact hbD | exact Below.refl _ _ | refine bw_later ?_ _ | refine bw_alloc ?_ _ | refine bw_drew ?_ | refine bw_set ?_ (Nat.le_refl _) _ | refine bw_set ?_ ?_ _ | exact Nat.le_refl _ | exact later_size _ _ | refine Nat.le_trans ?_ (later_size _ _) | refine Nat.le_trans ?_ (size_alloc_le _ _) | refine Nat.le_trans ?_ (Nat.le_add_right _ _))) rfl (fun K hK => ?_); apply Exists.intro; refine ⟨fun x => ?_, ?_⟩; focus (go_simp; (try go_bits); (try go_simp); (try rfl))); (go_simp; (try go_bits); refine hK _ ?_; clear hK K); (refine step_read (i := 5) (by kernel_rfl) (by kernel_rfl) rfl (by repeat (with_reducible first | exact hbD | exact Below.refl _ _ | refine bw_later ?_ _ | refine bw_alloc ?_ _ | refine bw_drew ?_ | refine bw_set ?_ (Nat.le_refl _) _ | refine bw_set ?_ ?_ _ | exact Nat.le_refl _ | exact later_size _ _ | refine Nat.le_trans ?_ (later_size _ _) | refine Nat.le_trans ?_ (size_alloc_le _ _) | refine Nat.le_trans ?_ (Nat.le_add_right _ _))) rfl (fun K hK => ?_); apply Exists.intro; refine ⟨fun x => ?_, ?_⟩; focus (go_simp; (try go_bits); (try go_simp); (try rfl))); (go_simp; (try go_bits); refine hK _ ?_; clear hK K); (refine step_read (i := 8) (by kernel_rfl) (by kernel_rfl) rfl (by repeat (with_reducible first | exact hbD | exact Below.refl _ _ | refine bw_later ?_ _ | refine bw_alloc ?_ _ | refine bw_drew ?_ | refine bw_set ?_ (Nat.le_refl _) _ | refine bw_set ?_ ?_ _ | exact Nat.le_refl _ | exact later_size _ _ | refine Nat.le_trans ?_ (later_size _ _) | refine Nat.le_trans ?_ (size_alloc_le _ _) | refine Nat.le_trans ?_ (Nat.le_add_right _ _))) rfl (fun K hK => ?_); apply Exists.intro; refine ⟨fun x => ?_, ?_⟩; focus (go_simp; (try go_bits); (try go_simp); (try rfl))); (go_simp; (try go_bits); refine hK _ ?_; clear hK K))
            refine step_app3 hKind (i0 := 0) (i4 := 4) (i9 := 6) (i10 := 7) (i14 := 9) (d0 := 91) (d4 := 95) (d9 := 97) (d10 := 98) (d14 := 100) (tk := 94) (tm := 99) (tx := 96) (k := i) (m := n - i) (N1 := (xs.take i).flatMap R3.cs) (N2 := (xs.drop (i)).flatMap R3.cs) (X := #[.int .i64 d.a, .int .i64 d.b, .int .i64 (d.c)]) (by kernel_rfl) (by kernel_rfl) (by kernel_rfl) (by kernel_rfl) (by kernel_rfl) (by kernel_rfl) (by kernel_rfl) rfl rfl rfl rfl rfl (by decide) (by decide) rfl rfl rfl rfl rfl rfl rfl rfl rfl rfl rfl (by decide) (by simp) (fun ys => rfl) (fun a' w => by go_simp) (fun ys => rfl) (fun a' ha w => by have ha' : a'.tmps[96]?.getD undef = .agg #[.int .i64 d.a, .int .i64 d.b, .int .i64 (d.c)] := (by simpa [Act.eval] using ha); clear ha; go_simp; done) rfl hl1.out (hF1.out _ (by repeat (with_reducible first | exact hbD | exact Below.refl _ _ | refine bw_later ?_ _ | refine bw_alloc ?_ _ | refine bw_drew ?_ | refine bw_set ?_ (Nat.le_refl _) _ | refine bw_set ?_ ?_ _ | exact Nat.le_refl _ | exact later_size _ _ | refine Nat.le_trans ?_ (later_size _ _) | refine Nat.le_trans ?_ (size_alloc_le _ _) | refine Nat.le_trans ?_ (Nat.le_add_right _ _)))) ho1.out rfl hl2.out (hF2.out _ (by repeat (with_reducible first | exact hbD | exact Below.refl _ _ | refine bw_later ?_ _ | refine bw_alloc ?_ _ | refine bw_drew ?_ | refine bw_set ?_ (Nat.le_refl _) _ | refine bw_set ?_ ?_ _ | exact Nat.le_refl _ | exact later_size _ _ | refine Nat.le_trans ?_ (later_size _ _) | refine Nat.le_trans ?_ (size_alloc_le _ _) | refine Nat.le_trans ?_ (Nat.le_add_right _ _)))) ho2.out rfl (fun u hu => by simp at hu; rcases hu with rfl | rfl | rfl <;> rfl) (by omega) (by repeat (with_reducible first | exact hbD | exact Below.refl _ _ | refine bw_later ?_ _ | refine bw_alloc ?_ _ | refine bw_drew ?_ | refine bw_set ?_ (Nat.le_refl _) _ | refine bw_set ?_ ?_ _ | exact Nat.le_refl _ | exact later_size _ _ | refine Nat.le_trans ?_ (later_size _ _) | refine Nat.le_trans ?_ (size_alloc_le _ _) | refine Nat.le_trans ?_ (Nat.le_add_right _ _))) (fun K hK u0 u4 u9 u10 v yv hown => ?_)
            rw [hins.out] at hown
            obtain ⟨go', cap', rfl, hb1, hb2⟩ := own_slice hown (by omega)
            have hown9 := hown
            have hs9 := sr_own hown9 hpl.out
            clear hown
            go_simp
            refine hK _ _ ?_
            clear hK K
            (refine step_one (i := 10) (by kernel_rfl) rfl (by repeat (with_reducible first | exact hbD | exact Below.refl _ _ | refine bw_later ?_ _ | refine bw_alloc ?_ _ | refine bw_drew ?_ | refine bw_set ?_ (Nat.le_refl _) _ | refine bw_set ?_ ?_ _ | exact Nat.le_refl _ | exact later_size _ _ | refine Nat.le_trans ?_ (later_size _ _) | refine Nat.le_trans ?_ (size_alloc_le _ _) | refine Nat.le_trans ?_ (Nat.le_add_right _ _))) (fun K hK => ?_); go_wp2; (try refine hK _ _ ?_); (try clear hK K))
            (refine step_end (by kernel_rfl) (by repeat (with_reducible first | exact hbD | exact Below.refl _ _ | refine bw_later ?_ _ | refine bw_alloc ?_ _ | refine bw_drew ?_ | refine bw_set ?_ (Nat.le_refl _) _ | refine bw_set ?_ ?_ _ | exact Nat.le_refl _ | exact later_size _ _ | refine Nat.le_trans ?_ (later_size _ _) | refine Nat.le_trans ?_ (size_alloc_le _ _) | refine Nat.le_trans ?_ (Nat.le_add_right _ _))) ?_)
            go_wp2_with (go_at_call 48; refine (hcA.out _ _ _ hs9).on ?_; intro xq)
            go_ret2
            rw [hfin.out, Hok.out]
            rw [if_pos rfl]
            exact R3sB.some_ (own_low (own_later hown9 xq) (Nat.le_trans hb7.size (later_size _ _))) hpl.out (by omega) (bw_trans (a := w) (b := W7) hb7 (by repeat (with_reducible first | exact hbD | exact Below.refl _ _ | refine bw_later ?_ _ | refine bw_alloc ?_ _ | refine bw_drew ?_ | refine bw_set ?_ (Nat.le_refl _) _ | refine bw_set ?_ ?_ _ | exact Nat.le_refl _ | exact later_size _ _ | refine Nat.le_trans ?_ (later_size _ _) | refine Nat.le_trans ?_ (size_alloc_le _ _) | refine Nat.le_trans ?_ (Nat.le_add_right _ _))))
        · cases e2 : decide (q.b < d.b)
          · have hno := Lib.hid (show ¬ cmpD q d < 0 from of_decide_eq_false (by rw [hcl, e0, e1, e2]; rfl))
            clear hcl
            have hat : atD d xs = i := atD_is (by have := hl.out; omega) ha.out (fun p hp => by rw [hq.out] at hp; cases hp; exact hno.out)
            have hea : q.a = d.a := of_decide_eq_true e1
            have e1' : (q.a == d.a) = true := by simpa using hea
            clear e1
            have hni : ¬ n = i := by omega
            have hni2 : 0 < n - i := by omega
            have hi2 : (i : Int) ≤ (n : Int) := by omega
            cases e3 : decide (q.b = d.b)
            · have hne1 : ¬ q.b = d.b := of_decide_eq_false e3
              have hit : hitD d xs = false := by
                unfold hitD
                rw [hat, hq.out]
                exact decide_eq_false fun h => hne1 (cmpD_0 h).2
              have hput := Lib.hid (show putW d xs = xs.take i ++ d :: xs.drop i by unfold putW; rw [hit, hat]; simp)
              have e3' : (q.b == d.b) = false := by simpa using hne1
              clear hat hit hne1 e3 hea
              go_wp2_with ((with_reducible refine wp_region_later (by kernel_rfl) (by kernel_rfl) ?_); (repeat (go_big_quiet_step (fail))); refine wpQuiet_nil ?_; rintro _ ⟨xr, rfl⟩)
              cases hok : okDam k (putW d xs)
              · refine settleW (R := fun W => AddW w W k ⟨d.a, d.b, d.c⟩ g off n xs) ?_ ?_
                · exact ⟨(by repeat (with_reducible first | exact hbD | exact Below.refl _ _ | refine bw_later ?_ _ | refine bw_alloc ?_ _ | refine bw_drew ?_ | refine bw_set ?_ (Nat.le_refl _) _ | refine bw_set ?_ ?_ _ | exact Nat.le_refl _ | exact later_size _ _ | refine Nat.le_trans ?_ (later_size _ _) | refine Nat.le_trans ?_ (size_alloc_le _ _) | refine Nat.le_trans ?_ (Nat.le_add_right _ _))), hs.below hg (by repeat (with_reducible first | exact hbD | exact Below.refl _ _ | refine bw_later ?_ _ | refine bw_alloc ?_ _ | refine bw_drew ?_ | refine bw_set ?_ (Nat.le_refl _) _ | refine bw_set ?_ ?_ _ | exact Nat.le_refl _ | exact later_size _ _ | refine Nat.le_trans ?_ (later_size _ _) | refine Nat.le_trans ?_ (size_alloc_le _ _) | refine Nat.le_trans ?_ (Nat.le_add_right _ _))), by go_simp, by go_simp, by go_simp, by go_simp, by go_simp, by go_simp, by go_simp, by go_simp, by go_simp⟩
                intro W7 ⟨hb7, hs7, k0, k1, k2, k3, k4, d0, d1, d2, _⟩
                have Hok := Lib.hid hok
                have hcA : Hid (∀ g c w, SR3 w g 0 (i + 1 + (n - i)) (putW d xs) → Gv Try.prog 48 #[k.v, .slice (some ⟨g, 0, none⟩) (i + 1 + (n - i)) c] w (.bool false)) := Lib.hid fun g c w h => hok ▸ l3Good_any k g 0 (i + 1 + (n - i)) c (putW d xs) w h (by omega)
                clear hok
                have hg7 := hs7.1
                have hl7 := World.block_lt_of_cell? W7 _ k0
                have hm7 := World.block_lt_of_cell? W7 _ d0
                simp only at hl7 hm7
                obtain ⟨yd, hyd⟩ := exists_later (bw_drew (Below.refl W7.heap.size W7))
                have hgd := lt_later _ yd g hg7
                have hld := lt_later _ yd w.heap.size hl7
                have hmd := lt_later _ yd (w.heap.size + 1) hm7
                have kc1 : (i : Int) ≤ (n : Int) := by omega
                have kc3 : (0 : Int) ≤ (i : Int) := by omega
                have hxl := hl.out
                have hF1 : Hid (∀ W, Below W7.heap.size W7 W → ∀ j u, ((xs.take i).flatMap R3.cs)[j]? = some u → W.cell? ((⟨g, off, none⟩ : Addr).add j) = some u) := Lib.hid fun W hb j u hu => by
                  rw [← flat_take, List.getElem?_take] at hu
                  split at hu
                  · exact (hs7.below hs7.1 hb).flat j u hu
                  · cases hu
                have hF2 : Hid (∀ W, Below W7.heap.size W7 W → ∀ j u, ((xs.drop (i)).flatMap R3.cs)[j]? = some u → W.cell? ((⟨g, off + i * 3, none⟩ : Addr).add j) = some u) := Lib.hid fun W hb j u hu => by
                  rw [← flat_drop, List.getElem?_drop] at hu; have h := (hs7.below hs7.1 hb).flat _ u hu; rw [addr_lit] at h ⊢; rw [← h]; congr 2; omega
                have hl1 : Hid (((xs.take i).flatMap R3.cs).length = i * 3) := Lib.hid (by rw [flat_len R3.cs_len, List.length_take]; omega)
                have hl2 : Hid (((xs.drop (i)).flatMap R3.cs).length = (n - i) * 3) := Lib.hid (by rw [flat_len R3.cs_len, List.length_drop]; omega)
                have hins : Hid ((xs.take i).flatMap R3.cs ++ (#[Value.int .i64 d.a, Value.int .i64 d.b, Value.int .i64 (d.c)] : Array Value).toList ++ (xs.drop (i)).flatMap R3.cs = (putW d xs).flatMap R3.cs) := Lib.hid (by rw [hput.out]; simp [R3.cs])
                have hpl : Hid ((putW d xs).length = i + 1 + (n - i)) := Lib.hid (by rw [hput.out]; simp; omega)
                have ho1 := Lib.hid (R3.one (xs.take i))
                have ho2 := Lib.hid (R3.one (xs.drop (i)))
                clear hxl
                refine wp_region_C (Below W7.heap.size W7) (by kernel_rfl) ?_
                rw [hyd]
                clear hyd
                ((refine step_read (i := 1) (by kernel_rfl) (by kernel_rfl) rfl (by repeat (with_reducible first | exact hbD | exact Below.refl _ _ | refine bw_later ?_ _ | refine bw_alloc ?_ _ | refine bw_drew ?_ | refine bw_set ?_ (Nat.le_refl _) _ | refine bw_set ?_ ?_ _ | exact Nat.le_refl _ | exact later_size _ _ | refine Nat.le_trans ?_ (later_size _ _) | refine Nat.le_trans ?_ (size_alloc_le _ _) | refine Nat.le_trans ?_ (Nat.le_add_right _ _))) rfl (fun K hK => ?_); apply Exists.intro; refine ⟨fun x => ?_, ?_⟩; focus (go_simp; (try go_bits); (try go_simp); (try rfl))); (go_simp; (try go_bits); refine hK _ ?_; clear hK K); (refine step_read (i := 2) (by kernel_rfl) (by kernel_rfl) rfl (by repeat (with_reducible first | exact hbD | exact Below.refl _ _ | refine bw_later ?_ _ | refine bw_alloc ?_ _ | refine bw_drew ?_ | refine bw_set ?_ (Nat.le_refl _) _ | refine bw_set ?_ ?_ _ | exact Nat.le_refl _ | exact later_size _ _ | refine Nat.le_trans ?_ (later_size _ _) | refine Nat.le_trans ?_ (size_alloc_le _ _) | refine Nat.le_trans ?_ (Nat.le_add_right _ _))) rfl (fun K hK => ?_); apply Exists.intro; refine ⟨fun x => ?_, ?_⟩; focus (go_simp; (try go_bits); (try go_simp); (try rfl))); (go_simp; (try go_bits); refine hK _ ?_; clear hK K); (refine step_read (i := 3) (by kernel_rfl) (by kernel_rfl) rfl (by repeat (with_reducible first | exact hbD | exact Below.refl _ _ | refine bw_later ?_ _ | refine bw_alloc ?_ _ | refine bw_drew ?_ | refine bw_set ?_ (Nat.le_refl _) _ | refine bw_set ?_ ?_ _ | exact Nat.le_refl _ | exact later_size _ _ | refine Nat.le_trans ?_ (later_size _ _) | refine Nat.le_trans ?_ (size_alloc_le _ _) | refine Nat.le_trans ?_ (Nat.le_add_right _ _))) rfl (fun K hK => ?_); apply Exists.intro; refine ⟨fun x => ?_, ?_⟩; focus (go_simp; (try go_bits); (try go_simp); (try rfl))); (go_simp; (try go_bits); refine hK _ ?_; clear hK K); (refine step_read (i := 5) (by kernel_rfl) (by kernel_rfl) rfl (by repeat (with_reducible first | exact hbD | exact Below.refl _ _ | refine bw_later ?_ _ | refine bw_alloc ?_ _ | refine bw_drew ?_ | refine bw_set ?_ (Nat.le_refl _) _ | refine bw_set ?_ ?_ _ | exact Nat.le_refl _ | exact later_size _ _ | refine Nat.le_trans ?_ (later_size _ _) | refine Nat.le_trans ?_ (size_alloc_le _ _) | refine Nat.le_trans ?_ (Nat.le_add_right _ _))) rfl (fun K hK => ?_); apply Exists.intro; refine ⟨fun x => ?_, ?_⟩; focus (go_simp; (try go_bits); (try go_simp); (try rfl))); (go_simp; (try go_bits); refine hK _ ?_; clear hK K); (refine step_read (i := 8) (by kernel_rfl) (by kernel_rfl) rfl (by repeat (with_reducible first | exact hbD | exact Below.refl _ _ | refine bw_later ?_ _ | refine bw_alloc ?_ _ | refine bw_drew ?_ | refine bw_set ?_ (Nat.le_refl _) _ | refine bw_set ?_ ?_ _ | exact Nat.le_refl _ | exact later_size _ _ | refine Nat.le_trans ?_ (later_size _ _) | refine Nat.le_trans ?_ (size_alloc_le _ _) | refine Nat.le_trans ?_ (Nat.le_add_right _ _))) rfl (fun K hK => ?_); apply Exists.intro; refine ⟨fun x => ?_, ?_⟩; focus (go_simp; (try go_bits); (try go_simp); (try rfl))); (go_simp; (try go_bits); refine hK _ ?_; clear hK K))
                refine step_app3 hKind (i0 := 0) (i4 := 4) (i9 := 6) (i10 := 7) (i14 := 9) (d0 := 91) (d4 := 95) (d9 := 97) (d10 := 98) (d14 := 100) (tk := 94) (tm := 99) (tx := 96) (k := i) (m := n - i) (N1 := (xs.take i).flatMap R3.cs) (N2 := (xs.drop (i)).flatMap R3.cs) (X := #[.int .i64 d.a, .int .i64 d.b, .int .i64 (d.c)]) (by kernel_rfl) (by kernel_rfl) (by kernel_rfl) (by kernel_rfl) (by kernel_rfl) (by kernel_rfl) (by kernel_rfl) rfl rfl rfl rfl rfl (by decide) (by decide) rfl rfl rfl rfl rfl rfl rfl rfl rfl rfl rfl (by decide) (by simp) (fun ys => rfl) (fun a' w => by go_simp) (fun ys => rfl) (fun a' ha w => by have ha' : a'.tmps[96]?.getD undef = .agg #[.int .i64 d.a, .int .i64 d.b, .int .i64 (d.c)] := (by simpa [Act.eval] using ha); clear ha; go_simp; done) rfl hl1.out (hF1.out _ (by repeat (with_reducible first | exact hbD | exact Below.refl _ _ | refine bw_later ?_ _ | refine bw_alloc ?_ _ | refine bw_drew ?_ | refine bw_set ?_ (Nat.le_refl _) _ | refine bw_set ?_ ?_ _ | exact Nat.le_refl _ | exact later_size _ _ | refine Nat.le_trans ?_ (later_size _ _) | refine Nat.le_trans ?_ (size_alloc_le _ _) | refine Nat.le_trans ?_ (Nat.le_add_right _ _)))) ho1.out rfl hl2.out (hF2.out _ (by repeat (with_reducible first | exact hbD | exact Below.refl _ _ | refine bw_later ?_ _ | refine bw_alloc ?_ _ | refine bw_drew ?_ | refine bw_set ?_ (Nat.le_refl _) _ | refine bw_set ?_ ?_ _ | exact Nat.le_refl _ | exact later_size _ _ | refine Nat.le_trans ?_ (later_size _ _) | refine Nat.le_trans ?_ (size_alloc_le _ _) | refine Nat.le_trans ?_ (Nat.le_add_right _ _)))) ho2.out rfl (fun u hu => by simp at hu; rcases hu with rfl | rfl | rfl <;> rfl) (by omega) (by repeat (with_reducible first | exact hbD | exact Below.refl _ _ | refine bw_later ?_ _ | refine bw_alloc ?_ _ | refine bw_drew ?_ | refine bw_set ?_ (Nat.le_refl _) _ | refine bw_set ?_ ?_ _ | exact Nat.le_refl _ | exact later_size _ _ | refine Nat.le_trans ?_ (later_size _ _) | refine Nat.le_trans ?_ (size_alloc_le _ _) | refine Nat.le_trans ?_ (Nat.le_add_right _ _))) (fun K hK u0 u4 u9 u10 v yv hown => ?_)
                rw [hins.out] at hown
                obtain ⟨go', cap', rfl, hb1, hb2⟩ := own_slice hown (by omega)
                have hown9 := hown
                have hs9 := sr_own hown9 hpl.out
                clear hown
                go_simp
                refine hK _ _ ?_
                clear hK K
                (refine step_one (i := 10) (by kernel_rfl) rfl (by repeat (with_reducible first | exact hbD | exact Below.refl _ _ | refine bw_later ?_ _ | refine bw_alloc ?_ _ | refine bw_drew ?_ | refine bw_set ?_ (Nat.le_refl _) _ | refine bw_set ?_ ?_ _ | exact Nat.le_refl _ | exact later_size _ _ | refine Nat.le_trans ?_ (later_size _ _) | refine Nat.le_trans ?_ (size_alloc_le _ _) | refine Nat.le_trans ?_ (Nat.le_add_right _ _))) (fun K hK => ?_); go_wp2; (try refine hK _ _ ?_); (try clear hK K))
                (refine step_end (by kernel_rfl) (by repeat (with_reducible first | exact hbD | exact Below.refl _ _ | refine bw_later ?_ _ | refine bw_alloc ?_ _ | refine bw_drew ?_ | refine bw_set ?_ (Nat.le_refl _) _ | refine bw_set ?_ ?_ _ | exact Nat.le_refl _ | exact later_size _ _ | refine Nat.le_trans ?_ (later_size _ _) | refine Nat.le_trans ?_ (size_alloc_le _ _) | refine Nat.le_trans ?_ (Nat.le_add_right _ _))) ?_)
                go_wp2_with (go_at_call 48; refine (hcA.out _ _ _ hs9).on ?_; intro xq)
                go_ret2
                rw [hfin.out, Hok.out]
                rw [if_neg (by simp)]
                exact R3sB.none_ (bw_trans (a := w) (b := W7) hb7 (by repeat (with_reducible first | exact hbD | exact Below.refl _ _ | refine bw_later ?_ _ | refine bw_alloc ?_ _ | refine bw_drew ?_ | refine bw_set ?_ (Nat.le_refl _) _ | refine bw_set ?_ ?_ _ | exact Nat.le_refl _ | exact later_size _ _ | refine Nat.le_trans ?_ (later_size _ _) | refine Nat.le_trans ?_ (size_alloc_le _ _) | refine Nat.le_trans ?_ (Nat.le_add_right _ _))))
              · refine settleW (R := fun W => AddW w W k ⟨d.a, d.b, d.c⟩ g off n xs) ?_ ?_
                · exact ⟨(by repeat (with_reducible first | exact hbD | exact Below.refl _ _ | refine bw_later ?_ _ | refine bw_alloc ?_ _ | refine bw_drew ?_ | refine bw_set ?_ (Nat.le_refl _) _ | refine bw_set ?_ ?_ _ | exact Nat.le_refl _ | exact later_size _ _ | refine Nat.le_trans ?_ (later_size _ _) | refine Nat.le_trans ?_ (size_alloc_le _ _) | refine Nat.le_trans ?_ (Nat.le_add_right _ _))), hs.below hg (by repeat (with_reducible first | exact hbD | exact Below.refl _ _ | refine bw_later ?_ _ | refine bw_alloc ?_ _ | refine bw_drew ?_ | refine bw_set ?_ (Nat.le_refl _) _ | refine bw_set ?_ ?_ _ | exact Nat.le_refl _ | exact later_size _ _ | refine Nat.le_trans ?_ (later_size _ _) | refine Nat.le_trans ?_ (size_alloc_le _ _) | refine Nat.le_trans ?_ (Nat.le_add_right _ _))), by go_simp, by go_simp, by go_simp, by go_simp, by go_simp, by go_simp, by go_simp, by go_simp, by go_simp⟩
                intro W7 ⟨hb7, hs7, k0, k1, k2, k3, k4, d0, d1, d2, _⟩
                have Hok := Lib.hid hok
                have hcA : Hid (∀ g c w, SR3 w g 0 (i + 1 + (n - i)) (putW d xs) → Gv Try.prog 48 #[k.v, .slice (some ⟨g, 0, none⟩) (i + 1 + (n - i)) c] w (.bool true)) := Lib.hid fun g c w h => hok ▸ l3Good_any k g 0 (i + 1 + (n - i)) c (putW d xs) w h (by omega)
                clear hok
                have hg7 := hs7.1
                have hl7 := World.block_lt_of_cell? W7 _ k0
                have hm7 := World.block_lt_of_cell? W7 _ d0
                simp only at hl7 hm7
                obtain ⟨yd, hyd⟩ := exists_later (bw_drew (Below.refl W7.heap.size W7))
                have hgd := lt_later _ yd g hg7
                have hld := lt_later _ yd w.heap.size hl7
                have hmd := lt_later _ yd (w.heap.size + 1) hm7
                have kc1 : (i : Int) ≤ (n : Int) := by omega
                have kc3 : (0 : Int) ≤ (i : Int) := by omega
                have hxl := hl.out
                have hF1 : Hid (∀ W, Below W7.heap.size W7 W → ∀ j u, ((xs.take i).flatMap R3.cs)[j]? = some u → W.cell? ((⟨g, off, none⟩ : Addr).add j) = some u) := Lib.hid fun W hb j u hu => by
                  rw [← flat_take, List.getElem?_take] at hu
                  split at hu
                  · exact (hs7.below hs7.1 hb).flat j u hu
                  · cases hu
                have hF2 : Hid (∀ W, Below W7.heap.size W7 W → ∀ j u, ((xs.drop (i)).flatMap R3.cs)[j]? = some u → W.cell? ((⟨g, off + i * 3, none⟩ : Addr).add j) = some u) := Lib.hid fun W hb j u hu => by
                  rw [← flat_drop, List.getElem?_drop] at hu; have h := (hs7.below hs7.1 hb).flat _ u hu; rw [addr_lit] at h ⊢; rw [← h]; congr 2; omega
                have hl1 : Hid (((xs.take i).flatMap R3.cs).length = i * 3) := Lib.hid (by rw [flat_len R3.cs_len, List.length_take]; omega)
                have hl2 : Hid (((xs.drop (i)).flatMap R3.cs).length = (n - i) * 3) := Lib.hid (by rw [flat_len R3.cs_len, List.length_drop]; omega)
                have hins : Hid ((xs.take i).flatMap R3.cs ++ (#[Value.int .i64 d.a, Value.int .i64 d.b, Value.int .i64 (d.c)] : Array Value).toList ++ (xs.drop (i)).flatMap R3.cs = (putW d xs).flatMap R3.cs) := Lib.hid (by rw [hput.out]; simp [R3.cs])
                have hpl : Hid ((putW d xs).length = i + 1 + (n - i)) := Lib.hid (by rw [hput.out]; simp; omega)
                have ho1 := Lib.hid (R3.one (xs.take i))
                have ho2 := Lib.hid (R3.one (xs.drop (i)))
                clear hxl
                refine wp_region_C (Below W7.heap.size W7) (by kernel_rfl) ?_
                rw [hyd]
                clear hyd
                ((refine step_read (i := 1) (by kernel_rfl) (by kernel_rfl) rfl (by repeat (with_reducible first | exact hbD | exact Below.refl _ _ | refine bw_later ?_ _ | refine bw_alloc ?_ _ | refine bw_drew ?_ | refine bw_set ?_ (Nat.le_refl _) _ | refine bw_set ?_ ?_ _ | exact Nat.le_refl _ | exact later_size _ _ | refine Nat.le_trans ?_ (later_size _ _) | refine Nat.le_trans ?_ (size_alloc_le _ _) | refine Nat.le_trans ?_ (Nat.le_add_right _ _))) rfl (fun K hK => ?_); apply Exists.intro; refine ⟨fun x => ?_, ?_⟩; focus (go_simp; (try go_bits); (try go_simp); (try rfl))); (go_simp; (try go_bits); refine hK _ ?_; clear hK K); (refine step_read (i := 2) (by kernel_rfl) (by kernel_rfl) rfl (by repeat (with_reducible first | exact hbD | exact Below.refl _ _ | refine bw_later ?_ _ | refine bw_alloc ?_ _ | refine bw_drew ?_ | refine bw_set ?_ (Nat.le_refl _) _ | refine bw_set ?_ ?_ _ | exact Nat.le_refl _ | exact later_size _ _ | refine Nat.le_trans ?_ (later_size _ _) | refine Nat.le_trans ?_ (size_alloc_le _ _) | refine Nat.le_trans ?_ (Nat.le_add_right _ _))) rfl (fun K hK => ?_); apply Exists.intro; refine ⟨fun x => ?_, ?_⟩; focus (go_simp; (try go_bits); (try go_simp); (try rfl))); (go_simp; (try go_bits); refine hK _ ?_; clear hK K); (refine step_read (i := 3) (by kernel_rfl) (by kernel_rfl) rfl (by repeat (with_reducible first | exact hbD | exact Below.refl _ _ | refine bw_later ?_ _ | refine bw_alloc ?_ _ | refine bw_drew ?_ | refine bw_set ?_ (Nat.le_refl _) _ | refine bw_set ?_ ?_ _ | exact Nat.le_refl _ | exact later_size _ _ | refine Nat.le_trans ?_ (later_size _ _) | refine Nat.le_trans ?_ (size_alloc_le _ _) | refine Nat.le_trans ?_ (Nat.le_add_right _ _))) rfl (fun K hK => ?_); apply Exists.intro; refine ⟨fun x => ?_, ?_⟩; focus (go_simp; (try go_bits); (try go_simp); (try rfl))); (go_simp; (try go_bits); refine hK _ ?_; clear hK K); (refine step_read (i := 5) (by kernel_rfl) (by kernel_rfl) rfl (by repeat (with_reducible first | exact hbD | exact Below.refl _ _ | refine bw_later ?_ _ | refine bw_alloc ?_ _ | refine bw_drew ?_ | refine bw_set ?_ (Nat.le_refl _) _ | refine bw_set ?_ ?_ _ | exact Nat.le_refl _ | exact later_size _ _ | refine Nat.le_trans ?_ (later_size _ _) | refine Nat.le_trans ?_ (size_alloc_le _ _) | refine Nat.le_trans ?_ (Nat.le_add_right _ _))) rfl (fun K hK => ?_); apply Exists.intro; refine ⟨fun x => ?_, ?_⟩; focus (go_simp; (try go_bits); (try go_simp); (try rfl))); (go_simp; (try go_bits); refine hK _ ?_; clear hK K); (refine step_read (i := 8) (by kernel_rfl) (by kernel_rfl) rfl (by repeat (with_reducible first | exact hbD | exact Below.refl _ _ | refine bw_later ?_ _ | refine bw_alloc ?_ _ | refine bw_drew ?_ | refine bw_set ?_ (Nat.le_refl _) _ | refine bw_set ?_ ?_ _ | exact Nat.le_refl _ | exact later_size _ _ | refine Nat.le_trans ?_ (later_size _ _) | refine Nat.le_trans ?_ (size_alloc_le _ _) | refine Nat.le_trans ?_ (Nat.le_add_right _ _))) rfl (fun K hK => ?_); apply Exists.intro; refine ⟨fun x => ?_, ?_⟩; focus (go_simp; (try go_bits); (try go_simp); (try rfl))); (go_simp; (try go_bits); refine hK _ ?_; clear hK K))
                refine step_app3 hKind (i0 := 0) (i4 := 4) (i9 := 6) (i10 := 7) (i14 := 9) (d0 := 91) (d4 := 95) (d9 := 97) (d10 := 98) (d14 := 100) (tk := 94) (tm := 99) (tx := 96) (k := i) (m := n - i) (N1 := (xs.take i).flatMap R3.cs) (N2 := (xs.drop (i)).flatMap R3.cs) (X := #[.int .i64 d.a, .int .i64 d.b, .int .i64 (d.c)]) (by kernel_rfl) (by kernel_rfl) (by kernel_rfl) (by kernel_rfl) (by kernel_rfl) (by kernel_rfl) (by kernel_rfl) rfl rfl rfl rfl rfl (by decide) (by decide) rfl rfl rfl rfl rfl rfl rfl rfl rfl rfl rfl (by decide) (by simp) (fun ys => rfl) (fun a' w => by go_simp) (fun ys => rfl) (fun a' ha w => by have ha' : a'.tmps[96]?.getD undef = .agg #[.int .i64 d.a, .int .i64 d.b, .int .i64 (d.c)] := (by simpa [Act.eval] using ha); clear ha; go_simp; done) rfl hl1.out (hF1.out _ (by repeat (with_reducible first | exact hbD | exact Below.refl _ _ | refine bw_later ?_ _ | refine bw_alloc ?_ _ | refine bw_drew ?_ | refine bw_set ?_ (Nat.le_refl _) _ | refine bw_set ?_ ?_ _ | exact Nat.le_refl _ | exact later_size _ _ | refine Nat.le_trans ?_ (later_size _ _) | refine Nat.le_trans ?_ (size_alloc_le _ _) | refine Nat.le_trans ?_ (Nat.le_add_right _ _)))) ho1.out rfl hl2.out (hF2.out _ (by repeat (with_reducible first | exact hbD | exact Below.refl _ _ | refine bw_later ?_ _ | refine bw_alloc ?_ _ | refine bw_drew ?_ | refine bw_set ?_ (Nat.le_refl _) _ | refine bw_set ?_ ?_ _ | exact Nat.le_refl _ | exact later_size _ _ | refine Nat.le_trans ?_ (later_size _ _) | refine Nat.le_trans ?_ (size_alloc_le _ _) | refine Nat.le_trans ?_ (Nat.le_add_right _ _)))) ho2.out rfl (fun u hu => by simp at hu; rcases hu with rfl | rfl | rfl <;> rfl) (by omega) (by repeat (with_reducible first | exact hbD | exact Below.refl _ _ | refine bw_later ?_ _ | refine bw_alloc ?_ _ | refine bw_drew ?_ | refine bw_set ?_ (Nat.le_refl _) _ | refine bw_set ?_ ?_ _ | exact Nat.le_refl _ | exact later_size _ _ | refine Nat.le_trans ?_ (later_size _ _) | refine Nat.le_trans ?_ (size_alloc_le _ _) | refine Nat.le_trans ?_ (Nat.le_add_right _ _))) (fun K hK u0 u4 u9 u10 v yv hown => ?_)
                rw [hins.out] at hown
                obtain ⟨go', cap', rfl, hb1, hb2⟩ := own_slice hown (by omega)
                have hown9 := hown
                have hs9 := sr_own hown9 hpl.out
                clear hown
                go_simp
                refine hK _ _ ?_
                clear hK K
                (refine step_one (i := 10) (by kernel_rfl) rfl (by repeat (with_reducible first | exact hbD | exact Below.refl _ _ | refine bw_later ?_ _ | refine bw_alloc ?_ _ | refine bw_drew ?_ | refine bw_set ?_ (Nat.le_refl _) _ | refine bw_set ?_ ?_ _ | exact Nat.le_refl _ | exact later_size _ _ | refine Nat.le_trans ?_ (later_size _ _) | refine Nat.le_trans ?_ (size_alloc_le _ _) | refine Nat.le_trans ?_ (Nat.le_add_right _ _))) (fun K hK => ?_); go_wp2; (try refine hK _ _ ?_); (try clear hK K))
                (refine step_end (by kernel_rfl) (by repeat (with_reducible first | exact hbD | exact Below.refl _ _ | refine bw_later ?_ _ | refine bw_alloc ?_ _ | refine bw_drew ?_ | refine bw_set ?_ (Nat.le_refl _) _ | refine bw_set ?_ ?_ _ | exact Nat.le_refl _ | exact later_size _ _ | refine Nat.le_trans ?_ (later_size _ _) | refine Nat.le_trans ?_ (size_alloc_le _ _) | refine Nat.le_trans ?_ (Nat.le_add_right _ _))) ?_)
                go_wp2_with (go_at_call 48; refine (hcA.out _ _ _ hs9).on ?_; intro xq)
                go_ret2
                rw [hfin.out, Hok.out]
                rw [if_pos rfl]
                exact R3sB.some_ (own_low (own_later hown9 xq) (Nat.le_trans hb7.size (later_size _ _))) hpl.out (by omega) (bw_trans (a := w) (b := W7) hb7 (by repeat (with_reducible first | exact hbD | exact Below.refl _ _ | refine bw_later ?_ _ | refine bw_alloc ?_ _ | refine bw_drew ?_ | refine bw_set ?_ (Nat.le_refl _) _ | refine bw_set ?_ ?_ _ | exact Nat.le_refl _ | exact later_size _ _ | refine Nat.le_trans ?_ (later_size _ _) | refine Nat.le_trans ?_ (size_alloc_le _ _) | refine Nat.le_trans ?_ (Nat.le_add_right _ _))))
            · have heb : q.b = d.b := of_decide_eq_true e3
              have hit : hitD d xs = true := by
                unfold hitD
                rw [hat, hq.out]
                refine decide_eq_true ?_
                simp [cmpD, cmpI, orI, hea, heb]
              have hput := Lib.hid (show putW d xs = xs.take i ++ ⟨d.a, d.b, wrap64 (d.c + q.c)⟩ :: xs.drop (i + 1) by unfold putW sumW; rw [hit, hat, hq.out]; simp)
              have e3' : (q.b == d.b) = true := by simpa using heb
              clear hat hit e3 hea heb
              by_cases hn1 : n - i = 1
              · go_wp2_with ((with_reducible refine wp_region_later (by kernel_rfl) (by kernel_rfl) ?_); (repeat (go_big_quiet_step (fail))); refine wpQuiet_nil ?_; rintro _ ⟨xr, rfl⟩)
                cases hok : okDam k (putW d xs)
                · refine settleW (R := fun W => AddW w W k ⟨d.a, d.b, d.c⟩ g off n xs) ?_ ?_
                  · exact ⟨(by repeat (with_reducible first | exact hbD | exact Below.refl _ _ | refine bw_later ?_ _ | refine bw_alloc ?_ _ | refine bw_drew ?_ | refine bw_set ?_ (Nat.le_refl _) _ | refine bw_set ?_ ?_ _ | exact Nat.le_refl _ | exact later_size _ _ | refine Nat.le_trans ?_ (later_size _ _) | refine Nat.le_trans ?_ (size_alloc_le _ _) | refine Nat.le_trans ?_ (Nat.le_add_right _ _))), hs.below hg (by repeat (with_reducible first | exact hbD | exact Below.refl _ _ | refine bw_later ?_ _ | refine bw_alloc ?_ _ | refine bw_drew ?_ | refine bw_set ?_ (Nat.le_refl _) _ | refine bw_set ?_ ?_ _ | exact Nat.le_refl _ | exact later_size _ _ | refine Nat.le_trans ?_ (later_size _ _) | refine Nat.le_trans ?_ (size_alloc_le _ _) | refine Nat.le_trans ?_ (Nat.le_add_right _ _))), by go_simp, by go_simp, by go_simp, by go_simp, by go_simp, by go_simp, by go_simp, by go_simp, by go_simp⟩
                  intro W6 ⟨hb6, hs6, j0, j1, j2, j3, j4, m0, m1, m2, fz⟩
                  obtain ⟨c0', c1', c2'⟩ := hs6.2.2 i q hq.out
                  have hg6 := hs6.1
                  have hl6 := World.block_lt_of_cell? W6 _ j0
                  have hm6 := World.block_lt_of_cell? W6 _ m0
                  simp only at hl6 hm6
                  go_region
                  go_wp2
                  refine settleW (R := fun W => AddW w W k ⟨d.a, d.b, wrap64 (d.c + q.c)⟩ g off n xs) ?_ ?_
                  · exact ⟨bw_drew (bw_set hb6 (Nat.le_succ _) _), hs.below hg (bw_drew (bw_set hb6 (Nat.le_succ _) _)), by go_simp, by go_simp, by go_simp, by go_simp, by go_simp, by go_simp, by go_simp, by go_simp, by go_simp⟩
                  intro W7 ⟨hb7, hs7, k0, k1, k2, k3, k4, d0, d1, d2, _⟩
                  have Hok := Lib.hid hok
                  have hcA : Hid (∀ g c w, SR3 w g 0 (i + 1 + (0)) (putW d xs) → Gv Try.prog 48 #[k.v, .slice (some ⟨g, 0, none⟩) (i + 1 + (0)) c] w (.bool false)) := Lib.hid fun g c w h => hok ▸ l3Good_any k g 0 (i + 1 + (0)) c (putW d xs) w h (by omega)
                  clear hok
                  have hg7 := hs7.1
                  have hl7 := World.block_lt_of_cell? W7 _ k0
                  have hm7 := World.block_lt_of_cell? W7 _ d0
                  simp only at hl7 hm7
                  obtain ⟨yd, hyd⟩ := exists_later (bw_drew (Below.refl W7.heap.size W7))
                  have hgd := lt_later _ yd g hg7
                  have hld := lt_later _ yd w.heap.size hl7
                  have hmd := lt_later _ yd (w.heap.size + 1) hm7
                  have kc1 : (i : Int) ≤ (n : Int) := by omega
                  have kc3 : (0 : Int) ≤ (i : Int) := by omega
                  have hxl := hl.out
                  have hF1 : Hid (∀ W, Below W7.heap.size W7 W → ∀ j u, ((xs.take i).flatMap R3.cs)[j]? = some u → W.cell? ((⟨g, off, none⟩ : Addr).add j) = some u) := Lib.hid fun W hb j u hu => by
                    rw [← flat_take, List.getElem?_take] at hu
                    split at hu
                    · exact (hs7.below hs7.1 hb).flat j u hu
                    · cases hu
                  have hF2 : Hid (∀ W, Below W7.heap.size W7 W → ∀ j u, ((xs.drop (i + 1)).flatMap R3.cs)[j]? = some u → W.cell? ((⟨g, off + i * 3, none⟩ : Addr).add j) = some u) := Lib.hid fun W hb j u hu => by
                    rw [List.drop_eq_nil_of_le (by omega)] at hu; simp at hu
                  have hl1 : Hid (((xs.take i).flatMap R3.cs).length = i * 3) := Lib.hid (by rw [flat_len R3.cs_len, List.length_take]; omega)
                  have hl2 : Hid (((xs.drop (i + 1)).flatMap R3.cs).length = (0) * 3) := Lib.hid (by rw [flat_len R3.cs_len, List.length_drop]; omega)
                  have hins : Hid ((xs.take i).flatMap R3.cs ++ (#[Value.int .i64 d.a, Value.int .i64 d.b, Value.int .i64 (wrap64 (d.c + q.c))] : Array Value).toList ++ (xs.drop (i + 1)).flatMap R3.cs = (putW d xs).flatMap R3.cs) := Lib.hid (by rw [hput.out]; simp [R3.cs])
                  have hpl : Hid ((putW d xs).length = i + 1 + (0)) := Lib.hid (by rw [hput.out]; simp; omega)
                  have ho1 := Lib.hid (R3.one (xs.take i))
                  have ho2 := Lib.hid (R3.one (xs.drop (i + 1)))
                  clear hxl
                  refine wp_region_C (Below W7.heap.size W7) (by kernel_rfl) ?_
                  rw [hyd]
                  clear hyd
                  ((refine step_read (i := 1) (by kernel_rfl) (by kernel_rfl) rfl (by repeat (with_reducible first | exact hbD | exact Below.refl _ _ | refine bw_later ?_ _ | refine bw_alloc ?_ _ | refine bw_drew ?_ | refine bw_set ?_ (Nat.le_refl _) _ | refine bw_set ?_ ?_ _ | exact Nat.le_refl _ | exact later_size _ _ | refine Nat.le_trans ?_ (later_size _ _) | refine Nat.le_trans ?_ (size_alloc_le _ _) | refine Nat.le_trans ?_ (Nat.le_add_right _ _))) rfl (fun K hK => ?_); apply Exists.intro; refine ⟨fun x => ?_, ?_⟩; focus (go_simp; (try go_bits); (try go_simp); (try rfl))); (go_simp; (try go_bits); refine hK _ ?_; clear hK K); (refine step_read (i := 2) (by kernel_rfl) (by kernel_rfl) rfl (by repeat (with_reducible first | exact hbD | exact Below.refl _ _ | refine bw_later ?_ _ | refine bw_alloc ?_ _ | refine bw_drew ?_ | refine bw_set ?_ (Nat.le_refl _) _ | refine bw_set ?_ ?_ _ | exact Nat.le_refl _ | exact later_size _ _ | refine Nat.le_trans ?_ (later_size _ _) | refine Nat.le_trans ?_ (size_alloc_le _ _) | refine Nat.le_trans ?_ (Nat.le_add_right _ _))) rfl (fun K hK => ?_); apply Exists.intro; refine ⟨fun x => ?_, ?_⟩; focus (go_simp; (try go_bits); (try go_simp); (try rfl))); (go_simp; (try go_bits); refine hK _ ?_; clear hK K); (refine step_read (i := 3) (by kernel_rfl) (by kernel_rfl) rfl (by repeat (with_reducible first | exact hbD | exact Below.refl _ _ | refine bw_later ?_ _ | refine bw_alloc ?_ _ | refine bw_drew ?_ | refine bw_set ?_ (Nat.le_refl _) _ | refine bw_set ?_ ?_ _ | exact Nat.le_refl _ | exact later_size _ _ | refine Nat.le_trans ?_ (later_size _ _) | refine Nat.le_trans ?_ (size_alloc_le _ _) | refine Nat.le_trans ?_ (Nat.le_add_right _ _))) rfl (fun K hK => ?_); apply Exists.intro; refine ⟨fun x => ?_, ?_⟩; focus (go_simp; (try go_bits); (try go_simp); (try rfl))); (go_simp; (try go_bits); refine hK _ ?_; clear hK K); (refine step_read (i := 5) (by kernel_rfl) (by kernel_rfl) rfl (by repeat (with_reducible first | exact hbD | exact Below.refl _ _ | refine bw_later ?_ _ | refine bw_alloc ?_ _ | refine bw_drew ?_ | refine bw_set ?_ (Nat.le_refl _) _ | refine bw_set ?_ ?_ _ | exact Nat.le_refl _ | exact later_size _ _ | refine Nat.le_trans ?_ (later_size _ _) | refine Nat.le_trans ?_ (size_alloc_le _ _) | refine Nat.le_trans ?_ (Nat.le_add_right _ _))) rfl (fun K hK => ?_); apply Exists.intro; refine ⟨fun x => ?_, ?_⟩; focus (go_simp; (try go_bits); (try go_simp); (try rfl))); (go_simp; (try go_bits); refine hK _ ?_; clear hK K); (refine step_read (i := 8) (by kernel_rfl) (by kernel_rfl) rfl (by repeat (with_reducible first | exact hbD | exact Below.refl _ _ | refine bw_later ?_ _ | refine bw_alloc ?_ _ | refine bw_drew ?_ | refine bw_set ?_ (Nat.le_refl _) _ | refine bw_set ?_ ?_ _ | exact Nat.le_refl _ | exact later_size _ _ | refine Nat.le_trans ?_ (later_size _ _) | refine Nat.le_trans ?_ (size_alloc_le _ _) | refine Nat.le_trans ?_ (Nat.le_add_right _ _))) rfl (fun K hK => ?_); apply Exists.intro; refine ⟨fun x => ?_, ?_⟩; focus (go_simp; (try go_bits); (try go_simp); (try rfl))); (go_simp; (try go_bits); refine hK _ ?_; clear hK K))
                  refine step_app3 hKind (i0 := 0) (i4 := 4) (i9 := 6) (i10 := 7) (i14 := 9) (d0 := 91) (d4 := 95) (d9 := 97) (d10 := 98) (d14 := 100) (tk := 94) (tm := 99) (tx := 96) (k := i) (m := 0) (N1 := (xs.take i).flatMap R3.cs) (N2 := (xs.drop (i + 1)).flatMap R3.cs) (X := #[.int .i64 d.a, .int .i64 d.b, .int .i64 (wrap64 (d.c + q.c))]) (by kernel_rfl) (by kernel_rfl) (by kernel_rfl) (by kernel_rfl) (by kernel_rfl) (by kernel_rfl) (by kernel_rfl) rfl rfl rfl rfl rfl (by decide) (by decide) rfl rfl rfl rfl rfl rfl rfl rfl rfl rfl rfl (by decide) (by simp) (fun ys => rfl) (fun a' w => by go_simp) (fun ys => rfl) (fun a' ha w => by have ha' : a'.tmps[96]?.getD undef = .agg #[.int .i64 d.a, .int .i64 d.b, .int .i64 (wrap64 (d.c + q.c))] := (by simpa [Act.eval] using ha); clear ha; go_simp; done) rfl hl1.out (hF1.out _ (by repeat (with_reducible first | exact hbD | exact Below.refl _ _ | refine bw_later ?_ _ | refine bw_alloc ?_ _ | refine bw_drew ?_ | refine bw_set ?_ (Nat.le_refl _) _ | refine bw_set ?_ ?_ _ | exact Nat.le_refl _ | exact later_size _ _ | refine Nat.le_trans ?_ (later_size _ _) | refine Nat.le_trans ?_ (size_alloc_le _ _) | refine Nat.le_trans ?_ (Nat.le_add_right _ _)))) ho1.out rfl hl2.out (hF2.out _ (by repeat (with_reducible first | exact hbD | exact Below.refl _ _ | refine bw_later ?_ _ | refine bw_alloc ?_ _ | refine bw_drew ?_ | refine bw_set ?_ (Nat.le_refl _) _ | refine bw_set ?_ ?_ _ | exact Nat.le_refl _ | exact later_size _ _ | refine Nat.le_trans ?_ (later_size _ _) | refine Nat.le_trans ?_ (size_alloc_le _ _) | refine Nat.le_trans ?_ (Nat.le_add_right _ _)))) ho2.out rfl (fun u hu => by simp at hu; rcases hu with rfl | rfl | rfl <;> rfl) (by omega) (by repeat (with_reducible first | exact hbD | exact Below.refl _ _ | refine bw_later ?_ _ | refine bw_alloc ?_ _ | refine bw_drew ?_ | refine bw_set ?_ (Nat.le_refl _) _ | refine bw_set ?_ ?_ _ | exact Nat.le_refl _ | exact later_size _ _ | refine Nat.le_trans ?_ (later_size _ _) | refine Nat.le_trans ?_ (size_alloc_le _ _) | refine Nat.le_trans ?_ (Nat.le_add_right _ _))) (fun K hK u0 u4 u9 u10 v yv hown => ?_)
                  rw [hins.out] at hown
                  obtain ⟨go', cap', rfl, hb1, hb2⟩ := own_slice hown (by omega)
                  have hown9 := hown
                  have hs9 := sr_own hown9 hpl.out
                  clear hown
                  go_simp
                  refine hK _ _ ?_
                  clear hK K
                  (refine step_one (i := 10) (by kernel_rfl) rfl (by repeat (with_reducible first | exact hbD | exact Below.refl _ _ | refine bw_later ?_ _ | refine bw_alloc ?_ _ | refine bw_drew ?_ | refine bw_set ?_ (Nat.le_refl _) _ | refine bw_set ?_ ?_ _ | exact Nat.le_refl _ | exact later_size _ _ | refine Nat.le_trans ?_ (later_size _ _) | refine Nat.le_trans ?_ (size_alloc_le _ _) | refine Nat.le_trans ?_ (Nat.le_add_right _ _))) (fun K hK => ?_); go_wp2; (try refine hK _ _ ?_); (try clear hK K))
                  (refine step_end (by kernel_rfl) (by repeat (with_reducible first | exact hbD | exact Below.refl _ _ | refine bw_later ?_ _ | refine bw_alloc ?_ _ | refine bw_drew ?_ | refine bw_set ?_ (Nat.le_refl _) _ | refine bw_set ?_ ?_ _ | exact Nat.le_refl _ | exact later_size _ _ | refine Nat.le_trans ?_ (later_size _ _) | refine Nat.le_trans ?_ (size_alloc_le _ _) | refine Nat.le_trans ?_ (Nat.le_add_right _ _))) ?_)
                  go_wp2_with (go_at_call 48; refine (hcA.out _ _ _ hs9).on ?_; intro xq)
                  go_ret2
                  rw [hfin.out, Hok.out]
                  rw [if_neg (by simp)]
                  exact R3sB.none_ (bw_trans (a := w) (b := W7) hb7 (by repeat (with_reducible first | exact hbD | exact Below.refl _ _ | refine bw_later ?_ _ | refine bw_alloc ?_ _ | refine bw_drew ?_ | refine bw_set ?_ (Nat.le_refl _) _ | refine bw_set ?_ ?_ _ | exact Nat.le_refl _ | exact later_size _ _ | refine Nat.le_trans ?_ (later_size _ _) | refine Nat.le_trans ?_ (size_alloc_le _ _) | refine Nat.le_trans ?_ (Nat.le_add_right _ _))))
                · refine settleW (R := fun W => AddW w W k ⟨d.a, d.b, d.c⟩ g off n xs) ?_ ?_
                  · exact ⟨(by repeat (with_reducible first | exact hbD | exact Below.refl _ _ | refine bw_later ?_ _ | refine bw_alloc ?_ _ | refine bw_drew ?_ | refine bw_set ?_ (Nat.le_refl _) _ | refine bw_set ?_ ?_ _ | exact Nat.le_refl _ | exact later_size _ _ | refine Nat.le_trans ?_ (later_size _ _) | refine Nat.le_trans ?_ (size_alloc_le _ _) | refine Nat.le_trans ?_ (Nat.le_add_right _ _))), hs.below hg (by repeat (with_reducible first | exact hbD | exact Below.refl _ _ | refine bw_later ?_ _ | refine bw_alloc ?_ _ | refine bw_drew ?_ | refine bw_set ?_ (Nat.le_refl _) _ | refine bw_set ?_ ?_ _ | exact Nat.le_refl _ | exact later_size _ _ | refine Nat.le_trans ?_ (later_size _ _) | refine Nat.le_trans ?_ (size_alloc_le _ _) | refine Nat.le_trans ?_ (Nat.le_add_right _ _))), by go_simp, by go_simp, by go_simp, by go_simp, by go_simp, by go_simp, by go_simp, by go_simp, by go_simp⟩
                  intro W6 ⟨hb6, hs6, j0, j1, j2, j3, j4, m0, m1, m2, fz⟩
                  obtain ⟨c0', c1', c2'⟩ := hs6.2.2 i q hq.out
                  have hg6 := hs6.1
                  have hl6 := World.block_lt_of_cell? W6 _ j0
                  have hm6 := World.block_lt_of_cell? W6 _ m0
                  simp only at hl6 hm6
                  go_region
                  go_wp2
                  refine settleW (R := fun W => AddW w W k ⟨d.a, d.b, wrap64 (d.c + q.c)⟩ g off n xs) ?_ ?_
                  · exact ⟨bw_drew (bw_set hb6 (Nat.le_succ _) _), hs.below hg (bw_drew (bw_set hb6 (Nat.le_succ _) _)), by go_simp, by go_simp, by go_simp, by go_simp, by go_simp, by go_simp, by go_simp, by go_simp, by go_simp⟩
                  intro W7 ⟨hb7, hs7, k0, k1, k2, k3, k4, d0, d1, d2, _⟩
                  have Hok := Lib.hid hok
                  have hcA : Hid (∀ g c w, SR3 w g 0 (i + 1 + (0)) (putW d xs) → Gv Try.prog 48 #[k.v, .slice (some ⟨g, 0, none⟩) (i + 1 + (0)) c] w (.bool true)) := Lib.hid fun g c w h => hok ▸ l3Good_any k g 0 (i + 1 + (0)) c (putW d xs) w h (by omega)
                  clear hok
                  have hg7 := hs7.1
                  have hl7 := World.block_lt_of_cell? W7 _ k0
                  have hm7 := World.block_lt_of_cell? W7 _ d0
                  simp only at hl7 hm7
                  obtain ⟨yd, hyd⟩ := exists_later (bw_drew (Below.refl W7.heap.size W7))
                  have hgd := lt_later _ yd g hg7
                  have hld := lt_later _ yd w.heap.size hl7
                  have hmd := lt_later _ yd (w.heap.size + 1) hm7
                  have kc1 : (i : Int) ≤ (n : Int) := by omega
                  have kc3 : (0 : Int) ≤ (i : Int) := by omega
                  have hxl := hl.out
                  have hF1 : Hid (∀ W, Below W7.heap.size W7 W → ∀ j u, ((xs.take i).flatMap R3.cs)[j]? = some u → W.cell? ((⟨g, off, none⟩ : Addr).add j) = some u) := Lib.hid fun W hb j u hu => by
                    rw [← flat_take, List.getElem?_take] at hu
                    split at hu
                    · exact (hs7.below hs7.1 hb).flat j u hu
                    · cases hu
                  have hF2 : Hid (∀ W, Below W7.heap.size W7 W → ∀ j u, ((xs.drop (i + 1)).flatMap R3.cs)[j]? = some u → W.cell? ((⟨g, off + i * 3, none⟩ : Addr).add j) = some u) := Lib.hid fun W hb j u hu => by
                    rw [List.drop_eq_nil_of_le (by omega)] at hu; simp at hu
                  have hl1 : Hid (((xs.take i).flatMap R3.cs).length = i * 3) := Lib.hid (by rw [flat_len R3.cs_len, List.length_take]; omega)
                  have hl2 : Hid (((xs.drop (i + 1)).flatMap R3.cs).length = (0) * 3) := Lib.hid (by rw [flat_len R3.cs_len, List.length_drop]; omega)
                  have hins : Hid ((xs.take i).flatMap R3.cs ++ (#[Value.int .i64 d.a, Value.int .i64 d.b, Value.int .i64 (wrap64 (d.c + q.c))] : Array Value).toList ++ (xs.drop (i + 1)).flatMap R3.cs = (putW d xs).flatMap R3.cs) := Lib.hid (by rw [hput.out]; simp [R3.cs])
                  have hpl : Hid ((putW d xs).length = i + 1 + (0)) := Lib.hid (by rw [hput.out]; simp; omega)
                  have ho1 := Lib.hid (R3.one (xs.take i))
                  have ho2 := Lib.hid (R3.one (xs.drop (i + 1)))
                  clear hxl
                  refine wp_region_C (Below W7.heap.size W7) (by kernel_rfl) ?_
                  rw [hyd]
                  clear hyd
                  ((refine step_read (i := 1) (by kernel_rfl) (by kernel_rfl) rfl (by repeat (with_reducible first | exact hbD | exact Below.refl _ _ | refine bw_later ?_ _ | refine bw_alloc ?_ _ | refine bw_drew ?_ | refine bw_set ?_ (Nat.le_refl _) _ | refine bw_set ?_ ?_ _ | exact Nat.le_refl _ | exact later_size _ _ | refine Nat.le_trans ?_ (later_size _ _) | refine Nat.le_trans ?_ (size_alloc_le _ _) | refine Nat.le_trans ?_ (Nat.le_add_right _ _))) rfl (fun K hK => ?_); apply Exists.intro; refine ⟨fun x => ?_, ?_⟩; focus (go_simp; (try go_bits); (try go_simp); (try rfl))); (go_simp; (try go_bits); refine hK _ ?_; clear hK K); (refine step_read (i := 2) (by kernel_rfl) (by kernel_rfl) rfl (by repeat (with_reducible first | exact hbD | exact Below.refl _ _ | refine bw_later ?_ _ | refine bw_alloc ?_ _ | refine bw_drew ?_ | refine bw_set ?_ (Nat.le_refl _) _ | refine bw_set ?_ ?_ _ | exact Nat.le_refl _ | exact later_size _ _ | refine Nat.le_trans ?_ (later_size _ _) | refine Nat.le_trans ?_ (size_alloc_le _ _) | refine Nat.le_trans ?_ (Nat.le_add_right _ _))) rfl (fun K hK => ?_); apply Exists.intro; refine ⟨fun x => ?_, ?_⟩; focus (go_simp; (try go_bits); (try go_simp); (try rfl))); (go_simp; (try go_bits); refine hK _ ?_; clear hK K); (refine step_read (i := 3) (by kernel_rfl) (by kernel_rfl) rfl (by repeat (with_reducible first | exact hbD | exact Below.refl _ _ | refine bw_later ?_ _ | refine bw_alloc ?_ _ | refine bw_drew ?_ | refine bw_set ?_ (Nat.le_refl _) _ | refine bw_set ?_ ?_ _ | exact Nat.le_refl _ | exact later_size _ _ | refine Nat.le_trans ?_ (later_size _ _) | refine Nat.le_trans ?_ (size_alloc_le _ _) | refine Nat.le_trans ?_ (Nat.le_add_right _ _))) rfl (fun K hK => ?_); apply Exists.intro; refine ⟨fun x => ?_, ?_⟩; focus (go_simp; (try go_bits); (try go_simp); (try rfl))); (go_simp; (try go_bits); refine hK _ ?_; clear hK K); (refine step_read (i := 5) (by kernel_rfl) (by kernel_rfl) rfl (by repeat (with_reducible first | exact hbD | exact Below.refl _ _ | refine bw_later ?_ _ | refine bw_alloc ?_ _ | refine bw_drew ?_ | refine bw_set ?_ (Nat.le_refl _) _ | refine bw_set ?_ ?_ _ | exact Nat.le_refl _ | exact later_size _ _ | refine Nat.le_trans ?_ (later_size _ _) | refine Nat.le_trans ?_ (size_alloc_le _ _) | refine Nat.le_trans ?_ (Nat.le_add_right _ _))) rfl (fun K hK => ?_); apply Exists.intro; refine ⟨fun x => ?_, ?_⟩; focus (go_simp; (try go_bits); (try go_simp); (try rfl))); (go_simp; (try go_bits); refine hK _ ?_; clear hK K); (refine step_read (i := 8) (by kernel_rfl) (by kernel_rfl) rfl (by repeat (with_reducible first | exact hbD | exact Below.refl _ _ | refine bw_later ?_ _ | refine bw_alloc ?_ _ | refine bw_drew ?_ | refine bw_set ?_ (Nat.le_refl _) _ | refine bw_set ?_ ?_ _ | exact Nat.le_refl _ | exact later_size _ _ | refine Nat.le_trans ?_ (later_size _ _) | refine Nat.le_trans ?_ (size_alloc_le _ _) | refine Nat.le_trans ?_ (Nat.le_add_right _ _))) rfl (fun K hK => ?_); apply Exists.intro; refine ⟨fun x => ?_, ?_⟩; focus (go_simp; (try go_bits); (try go_simp); (try rfl))); (go_simp; (try go_bits); refine hK _ ?_; clear hK K))
                  refine step_app3 hKind (i0 := 0) (i4 := 4) (i9 := 6) (i10 := 7) (i14 := 9) (d0 := 91) (d4 := 95) (d9 := 97) (d10 := 98) (d14 := 100) (tk := 94) (tm := 99) (tx := 96) (k := i) (m := 0) (N1 := (xs.take i).flatMap R3.cs) (N2 := (xs.drop (i + 1)).flatMap R3.cs) (X := #[.int .i64 d.a, .int .i64 d.b, .int .i64 (wrap64 (d.c + q.c))]) (by kernel_rfl) (by kernel_rfl) (by kernel_rfl) (by kernel_rfl) (by kernel_rfl) (by kernel_rfl) (by kernel_rfl) rfl rfl rfl rfl rfl (by decide) (by decide) rfl rfl rfl rfl rfl rfl rfl rfl rfl rfl rfl (by decide) (by simp) (fun ys => rfl) (fun a' w => by go_simp) (fun ys => rfl) (fun a' ha w => by have ha' : a'.tmps[96]?.getD undef = .agg #[.int .i64 d.a, .int .i64 d.b, .int .i64 (wrap64 (d.c + q.c))] := (by simpa [Act.eval] using ha); clear ha; go_simp; done) rfl hl1.out (hF1.out _ (by repeat (with_reducible first | exact hbD | exact Below.refl _ _ | refine bw_later ?_ _ | refine bw_alloc ?_ _ | refine bw_drew ?_ | refine bw_set ?_ (Nat.le_refl _) _ | refine bw_set ?_ ?_ _ | exact Nat.le_refl _ | exact later_size _ _ | refine Nat.le_trans ?_ (later_size _ _) | refine Nat.le_trans ?_ (size_alloc_le _ _) | refine Nat.le_trans ?_ (Nat.le_add_right _ _)))) ho1.out rfl hl2.out (hF2.out _ (by repeat (with_reducible first | exact hbD | exact Below.refl _ _ | refine bw_later ?_ _ | refine bw_alloc ?_ _ | refine bw_drew ?_ | refine bw_set ?_ (Nat.le_refl _) _ | refine bw_set ?_ ?_ _ | exact Nat.le_refl _ | exact later_size _ _ | refine Nat.le_trans ?_ (later_size _ _) | refine Nat.le_trans ?_ (size_alloc_le _ _) | refine Nat.le_trans ?_ (Nat.le_add_right _ _)))) ho2.out rfl (fun u hu => by simp at hu; rcases hu with rfl | rfl | rfl <;> rfl) (by omega) (by repeat (with_reducible first | exact hbD | exact Below.refl _ _ | refine bw_later ?_ _ | refine bw_alloc ?_ _ | refine bw_drew ?_ | refine bw_set ?_ (Nat.le_refl _) _ | refine bw_set ?_ ?_ _ | exact Nat.le_refl _ | exact later_size _ _ | refine Nat.le_trans ?_ (later_size _ _) | refine Nat.le_trans ?_ (size_alloc_le _ _) | refine Nat.le_trans ?_ (Nat.le_add_right _ _))) (fun K hK u0 u4 u9 u10 v yv hown => ?_)
                  rw [hins.out] at hown
                  obtain ⟨go', cap', rfl, hb1, hb2⟩ := own_slice hown (by omega)
                  have hown9 := hown
                  have hs9 := sr_own hown9 hpl.out
                  clear hown
                  go_simp
                  refine hK _ _ ?_
                  clear hK K
                  (refine step_one (i := 10) (by kernel_rfl) rfl (by repeat (with_reducible first | exact hbD | exact Below.refl _ _ | refine bw_later ?_ _ | refine bw_alloc ?_ _ | refine bw_drew ?_ | refine bw_set ?_ (Nat.le_refl _) _ | refine bw_set ?_ ?_ _ | exact Nat.le_refl _ | exact later_size _ _ | refine Nat.le_trans ?_ (later_size _ _) | refine Nat.le_trans ?_ (size_alloc_le _ _) | refine Nat.le_trans ?_ (Nat.le_add_right _ _))) (fun K hK => ?_); go_wp2; (try refine hK _ _ ?_); (try clear hK K))
                  (refine step_end (by kernel_rfl) (by repeat (with_reducible first | exact hbD | exact Below.refl _ _ | refine bw_later ?_ _ | refine bw_alloc ?_ _ | refine bw_drew ?_ | refine bw_set ?_ (Nat.le_refl _) _ | refine bw_set ?_ ?_ _ | exact Nat.le_refl _ | exact later_size _ _ | refine Nat.le_trans ?_ (later_size _ _) | refine Nat.le_trans ?_ (size_alloc_le _ _) | refine Nat.le_trans ?_ (Nat.le_add_right _ _))) ?_)
                  go_wp2_with (go_at_call 48; refine (hcA.out _ _ _ hs9).on ?_; intro xq)
                  go_ret2
                  rw [hfin.out, Hok.out]
                  rw [if_pos rfl]
                  exact R3sB.some_ (own_low (own_later hown9 xq) (Nat.le_trans hb7.size (later_size _ _))) hpl.out (by omega) (bw_trans (a := w) (b := W7) hb7 (by repeat (with_reducible first | exact hbD | exact Below.refl _ _ | refine bw_later ?_ _ | refine bw_alloc ?_ _ | refine bw_drew ?_ | refine bw_set ?_ (Nat.le_refl _) _ | refine bw_set ?_ ?_ _ | exact Nat.le_refl _ | exact later_size _ _ | refine Nat.le_trans ?_ (later_size _ _) | refine Nat.le_trans ?_ (size_alloc_le _ _) | refine Nat.le_trans ?_ (Nat.le_add_right _ _))))

              · go_wp2_with ((with_reducible refine wp_region_later (by kernel_rfl) (by kernel_rfl) ?_); (repeat (go_big_quiet_step (fail))); refine wpQuiet_nil ?_; rintro _ ⟨xr, rfl⟩)
                cases hok : okDam k (putW d xs)
                · refine settleW (R := fun W => AddW w W k ⟨d.a, d.b, d.c⟩ g off n xs) ?_ ?_
                  · exact ⟨(by repeat (with_reducible first | exact hbD | exact Below.refl _ _ | refine bw_later ?_ _ | refine bw_alloc ?_ _ | refine bw_drew ?_ | refine bw_set ?_ (Nat.le_refl _) _ | refine bw_set ?_ ?_ _ | exact Nat.le_refl _ | exact later_size _ _ | refine Nat.le_trans ?_ (later_size _ _) | refine Nat.le_trans ?_ (size_alloc_le _ _) | refine Nat.le_trans ?_ (Nat.le_add_right _ _))), hs.below hg (by repeat (with_reducible first | exact hbD | exact Below.refl _ _ | refine bw_later ?_ _ | refine bw_alloc ?_ _ | refine bw_drew ?_ | refine bw_set ?_ (Nat.le_refl _) _ | refine bw_set ?_ ?_ _ | exact Nat.le_refl _ | exact later_size _ _ | refine Nat.le_trans ?_ (later_size _ _) | refine Nat.le_trans ?_ (size_alloc_le _ _) | refine Nat.le_trans ?_ (Nat.le_add_right _ _))), by go_simp, by go_simp, by go_simp, by go_simp, by go_simp, by go_simp, by go_simp, by go_simp, by go_simp⟩
                  intro W6 ⟨hb6, hs6, j0, j1, j2, j3, j4, m0, m1, m2, fz⟩
                  obtain ⟨c0', c1', c2'⟩ := hs6.2.2 i q hq.out
                  have hg6 := hs6.1
                  have hl6 := World.block_lt_of_cell? W6 _ j0
                  have hm6 := World.block_lt_of_cell? W6 _ m0
                  simp only at hl6 hm6
                  go_region
                  go_wp2
                  refine settleW (R := fun W => AddW w W k ⟨d.a, d.b, wrap64 (d.c + q.c)⟩ g off n xs) ?_ ?_
                  · exact ⟨bw_drew (bw_set hb6 (Nat.le_succ _) _), hs.below hg (bw_drew (bw_set hb6 (Nat.le_succ _) _)), by go_simp, by go_simp, by go_simp, by go_simp, by go_simp, by go_simp, by go_simp, by go_simp, by go_simp⟩
                  intro W7 ⟨hb7, hs7, k0, k1, k2, k3, k4, d0, d1, d2, _⟩
                  have Hok := Lib.hid hok
                  have hcA : Hid (∀ g c w, SR3 w g 0 (i + 1 + (n - i - 1)) (putW d xs) → Gv Try.prog 48 #[k.v, .slice (some ⟨g, 0, none⟩) (i + 1 + (n - i - 1)) c] w (.bool false)) := Lib.hid fun g c w h => hok ▸ l3Good_any k g 0 (i + 1 + (n - i - 1)) c (putW d xs) w h (by omega)
                  clear hok
                  have hg7 := hs7.1
                  have hl7 := World.block_lt_of_cell? W7 _ k0
                  have hm7 := World.block_lt_of_cell? W7 _ d0
                  simp only at hl7 hm7
                  obtain ⟨yd, hyd⟩ := exists_later (bw_drew (Below.refl W7.heap.size W7))
                  have hgd := lt_later _ yd g hg7
                  have hld := lt_later _ yd w.heap.size hl7
                  have hmd := lt_later _ yd (w.heap.size + 1) hm7
                  have kc1 : (i : Int) ≤ (n : Int) := by omega
                  have kc3 : (0 : Int) ≤ (i : Int) := by omega
                  have hxl := hl.out
                  have hF1 : Hid (∀ W, Below W7.heap.size W7 W → ∀ j u, ((xs.take i).flatMap R3.cs)[j]? = some u → W.cell? ((⟨g, off, none⟩ : Addr).add j) = some u) := Lib.hid fun W hb j u hu => by
                    rw [← flat_take, List.getElem?_take] at hu
                    split at hu
                    · exact (hs7.below hs7.1 hb).flat j u hu
                    · cases hu
                  have hF2 : Hid (∀ W, Below W7.heap.size W7 W → ∀ j u, ((xs.drop (i + 1)).flatMap R3.cs)[j]? = some u → W.cell? ((⟨g, off + i * 3 + 3, none⟩ : Addr).add j) = some u) := Lib.hid fun W hb j u hu => by
                    rw [← flat_drop, List.getElem?_drop] at hu; have h := (hs7.below hs7.1 hb).flat _ u hu; rw [addr_lit] at h ⊢; rw [← h]; congr 2; omega
                  have hl1 : Hid (((xs.take i).flatMap R3.cs).length = i * 3) := Lib.hid (by rw [flat_len R3.cs_len, List.length_take]; omega)
                  have hl2 : Hid (((xs.drop (i + 1)).flatMap R3.cs).length = (n - i - 1) * 3) := Lib.hid (by rw [flat_len R3.cs_len, List.length_drop]; omega)
                  have hins : Hid ((xs.take i).flatMap R3.cs ++ (#[Value.int .i64 d.a, Value.int .i64 d.b, Value.int .i64 (wrap64 (d.c + q.c))] : Array Value).toList ++ (xs.drop (i + 1)).flatMap R3.cs = (putW d xs).flatMap R3.cs) := Lib.hid (by rw [hput.out]; simp [R3.cs])
                  have hpl : Hid ((putW d xs).length = i + 1 + (n - i - 1)) := Lib.hid (by rw [hput.out]; simp; omega)
                  have ho1 := Lib.hid (R3.one (xs.take i))
                  have ho2 := Lib.hid (R3.one (xs.drop (i + 1)))
                  clear hxl
                  refine wp_region_C (Below W7.heap.size W7) (by kernel_rfl) ?_
                  rw [hyd]
                  clear hyd
                  ((refine step_read (i := 1) (by kernel_rfl) (by kernel_rfl) rfl (by repeat (with_reducible first | exact hbD | exact Below.refl _ _ | refine bw_later ?_ _ | refine bw_alloc ?_ _ | refine bw_drew ?_ | refine bw_set ?_ (Nat.le_refl _) _ | refine bw_set ?_ ?_ _ | exact Nat.le_refl _ | exact later_size _ _ | refine Nat.le_trans ?_ (later_size _ _) | refine Nat.le_trans ?_ (size_alloc_le _ _) | refine Nat.le_trans ?_ (Nat.le_add_right _ _))) rfl (fun K hK => ?_); apply Exists.intro; refine ⟨fun x => ?_, ?_⟩; focus (go_simp; (try go_bits); (try go_simp); (try rfl))); (go_simp; (try go_bits); refine hK _ ?_; clear hK K); (refine step_read (i := 2) (by kernel_rfl) (by kernel_rfl) rfl (by repeat (with_reducible first | exact hbD | exact Below.refl _ _ | refine bw_later ?_ _ | refine bw_alloc ?_ _ | refine bw_drew ?_ | refine bw_set ?_ (Nat.le_refl _) _ | refine bw_set ?_ ?_ _ | exact Nat.le_refl _ | exact later_size _ _ | refine Nat.le_trans ?_ (later_size _ _) | refine Nat.le_trans ?_ (size_alloc_le _ _) | refine Nat.le_trans ?_ (Nat.le_add_right _ _))) rfl (fun K hK => ?_); apply Exists.intro; refine ⟨fun x => ?_, ?_⟩; focus (go_simp; (try go_bits); (try go_simp); (try rfl))); (go_simp; (try go_bits); refine hK _ ?_; clear hK K); (refine step_read (i := 3) (by kernel_rfl) (by kernel_rfl) rfl (by repeat (with_reducible first | exact hbD | exact Below.refl _ _ | refine bw_later ?_ _ | refine bw_alloc ?_ _ | refine bw_drew ?_ | refine bw_set ?_ (Nat.le_refl _) _ | refine bw_set ?_ ?_ _ | exact Nat.le_refl _ | exact later_size _ _ | refine Nat.le_trans ?_ (later_size _ _) | refine Nat.le_trans ?_ (size_alloc_le _ _) | refine Nat.le_trans ?_ (Nat.le_add_right _ _))) rfl (fun K hK => ?_); apply Exists.intro; refine ⟨fun x => ?_, ?_⟩; focus (go_simp; (try go_bits); (try go_simp); (try rfl))); (go_simp; (try go_bits); refine hK _ ?_; clear hK K); (refine step_read (i := 5) (by kernel_rfl) (by kernel_rfl) rfl (by repeat (with_reducible first | exact hbD | exact Below.refl _ _ | refine bw_later ?_ _ | refine bw_alloc ?_ _ | refine bw_drew ?_ | refine bw_set ?_ (Nat.le_refl _) _ | refine bw_set ?_ ?_ _ | exact Nat.le_refl _ | exact later_size _ _ | refine Nat.le_trans ?_ (later_size _ _) | refine Nat.le_trans ?_ (size_alloc_le _ _) | refine Nat.le_trans ?_ (Nat.le_add_right _ _))) rfl (fun K hK => ?_); apply Exists.intro; refine ⟨fun x => ?_, ?_⟩; focus (go_simp; (try go_bits); (try go_simp); (try rfl))); (go_simp; (try go_bits); refine hK _ ?_; clear hK K); (refine step_read (i := 8) (by kernel_rfl) (by kernel_rfl) rfl (by repeat (with_reducible first | exact hbD | exact Below.refl _ _ | refine bw_later ?_ _ | refine bw_alloc ?_ _ | refine bw_drew ?_ | refine bw_set ?_ (Nat.le_refl _) _ | refine bw_set ?_ ?_ _ | exact Nat.le_refl _ | exact later_size _ _ | refine Nat.le_trans ?_ (later_size _ _) | refine Nat.le_trans ?_ (size_alloc_le _ _) | refine Nat.le_trans ?_ (Nat.le_add_right _ _))) rfl (fun K hK => ?_); apply Exists.intro; refine ⟨fun x => ?_, ?_⟩; focus (go_simp; (try go_bits); (try go_simp); (try rfl))); (go_simp; (try go_bits); refine hK _ ?_; clear hK K))
                  refine step_app3 hKind (i0 := 0) (i4 := 4) (i9 := 6) (i10 := 7) (i14 := 9) (d0 := 91) (d4 := 95) (d9 := 97) (d10 := 98) (d14 := 100) (tk := 94) (tm := 99) (tx := 96) (k := i) (m := n - i - 1) (N1 := (xs.take i).flatMap R3.cs) (N2 := (xs.drop (i + 1)).flatMap R3.cs) (X := #[.int .i64 d.a, .int .i64 d.b, .int .i64 (wrap64 (d.c + q.c))]) (by kernel_rfl) (by kernel_rfl) (by kernel_rfl) (by kernel_rfl) (by kernel_rfl) (by kernel_rfl) (by kernel_rfl) rfl rfl rfl rfl rfl (by decide) (by decide) rfl rfl rfl rfl rfl rfl rfl rfl rfl rfl rfl (by decide) (by simp) (fun ys => rfl) (fun a' w => by go_simp) (fun ys => rfl) (fun a' ha w => by have ha' : a'.tmps[96]?.getD undef = .agg #[.int .i64 d.a, .int .i64 d.b, .int .i64 (wrap64 (d.c + q.c))] := (by simpa [Act.eval] using ha); clear ha; go_simp; done) rfl hl1.out (hF1.out _ (by repeat (with_reducible first | exact hbD | exact Below.refl _ _ | refine bw_later ?_ _ | refine bw_alloc ?_ _ | refine bw_drew ?_ | refine bw_set ?_ (Nat.le_refl _) _ | refine bw_set ?_ ?_ _ | exact Nat.le_refl _ | exact later_size _ _ | refine Nat.le_trans ?_ (later_size _ _) | refine Nat.le_trans ?_ (size_alloc_le _ _) | refine Nat.le_trans ?_ (Nat.le_add_right _ _)))) ho1.out rfl hl2.out (hF2.out _ (by repeat (with_reducible first | exact hbD | exact Below.refl _ _ | refine bw_later ?_ _ | refine bw_alloc ?_ _ | refine bw_drew ?_ | refine bw_set ?_ (Nat.le_refl _) _ | refine bw_set ?_ ?_ _ | exact Nat.le_refl _ | exact later_size _ _ | refine Nat.le_trans ?_ (later_size _ _) | refine Nat.le_trans ?_ (size_alloc_le _ _) | refine Nat.le_trans ?_ (Nat.le_add_right _ _)))) ho2.out rfl (fun u hu => by simp at hu; rcases hu with rfl | rfl | rfl <;> rfl) (by omega) (by repeat (with_reducible first | exact hbD | exact Below.refl _ _ | refine bw_later ?_ _ | refine bw_alloc ?_ _ | refine bw_drew ?_ | refine bw_set ?_ (Nat.le_refl _) _ | refine bw_set ?_ ?_ _ | exact Nat.le_refl _ | exact later_size _ _ | refine Nat.le_trans ?_ (later_size _ _) | refine Nat.le_trans ?_ (size_alloc_le _ _) | refine Nat.le_trans ?_ (Nat.le_add_right _ _))) (fun K hK u0 u4 u9 u10 v yv hown => ?_)
                  rw [hins.out] at hown
                  obtain ⟨go', cap', rfl, hb1, hb2⟩ := own_slice hown (by omega)
                  have hown9 := hown
                  have hs9 := sr_own hown9 hpl.out
                  clear hown
                  go_simp
                  refine hK _ _ ?_
                  clear hK K
                  (refine step_one (i := 10) (by kernel_rfl) rfl (by repeat (with_reducible first | exact hbD | exact Below.refl _ _ | refine bw_later ?_ _ | refine bw_alloc ?_ _ | refine bw_drew ?_ | refine bw_set ?_ (Nat.le_refl _) _ | refine bw_set ?_ ?_ _ | exact Nat.le_refl _ | exact later_size _ _ | refine Nat.le_trans ?_ (later_size _ _) | refine Nat.le_trans ?_ (size_alloc_le _ _) | refine Nat.le_trans ?_ (Nat.le_add_right _ _))) (fun K hK => ?_); go_wp2; (try refine hK _ _ ?_); (try clear hK K))
                  (refine step_end (by kernel_rfl) (by repeat (with_reducible first | exact hbD | exact Below.refl _ _ | refine bw_later ?_ _ | refine bw_alloc ?_ _ | refine bw_drew ?_ | refine bw_set ?_ (Nat.le_refl _) _ | refine bw_set ?_ ?_ _ | exact Nat.le_refl _ | exact later_size _ _ | refine Nat.le_trans ?_ (later_size _ _) | refine Nat.le_trans ?_ (size_alloc_le _ _) | refine Nat.le_trans ?_ (Nat.le_add_right _ _))) ?_)
                  go_wp2_with (go_at_call 48; refine (hcA.out _ _ _ hs9).on ?_; intro xq)
                  go_ret2
                  rw [hfin.out, Hok.out]
                  rw [if_neg (by simp)]
                  exact R3sB.none_ (bw_trans (a := w) (b := W7) hb7 (by repeat (with_reducible first | exact hbD | exact Below.refl _ _ | refine bw_later ?_ _ | refine bw_alloc ?_ _ | refine bw_drew ?_ | refine bw_set ?_ (Nat.le_refl _) _ | refine bw_set ?_ ?_ _ | exact Nat.le_refl _ | exact later_size _ _ | refine Nat.le_trans ?_ (later_size _ _) | refine Nat.le_trans ?_ (size_alloc_le _ _) | refine Nat.le_trans ?_ (Nat.le_add_right _ _))))
                · refine settleW (R := fun W => AddW w W k ⟨d.a, d.b, d.c⟩ g off n xs) ?_ ?_
                  · exact ⟨(by repeat (with_reducible first | exact hbD | exact Below.refl _ _ | refine bw_later ?_ _ | refine bw_alloc ?_ _ | refine bw_drew ?_ | refine bw_set ?_ (Nat.le_refl _) _ | refine bw_set ?_ ?_ _ | exact Nat.le_refl _ | exact later_size _ _ | refine Nat.le_trans ?_ (later_size _ _) | refine Nat.le_trans ?_ (size_alloc_le _ _) | refine Nat.le_trans ?_ (Nat.le_add_right _ _))), hs.below hg (by repeat (with_reducible first | exact hbD | exact Below.refl _ _ | refine bw_later ?_ _ | refine bw_alloc ?_ _ | refine bw_drew ?_ | refine bw_set ?_ (Nat.le_refl _) _ | refine bw_set ?_ ?_ _ | exact Nat.le_refl _ | exact later_size _ _ | refine Nat.le_trans ?_ (later_size _ _) | refine Nat.le_trans ?_ (size_alloc_le _ _) | refine Nat.le_trans ?_ (Nat.le_add_right _ _))), by go_simp, by go_simp, by go_simp, by go_simp, by go_simp, by go_simp, by go_simp, by go_simp, by go_simp⟩
                  intro W6 ⟨hb6, hs6, j0, j1, j2, j3, j4, m0, m1, m2, fz⟩
                  obtain ⟨c0', c1', c2'⟩ := hs6.2.2 i q hq.out
                  have hg6 := hs6.1
                  have hl6 := World.block_lt_of_cell? W6 _ j0
                  have hm6 := World.block_lt_of_cell? W6 _ m0
                  simp only at hl6 hm6
                  go_region
                  go_wp2
                  refine settleW (R := fun W => AddW w W k ⟨d.a, d.b, wrap64 (d.c + q.c)⟩ g off n xs) ?_ ?_
                  · exact ⟨bw_drew (bw_set hb6 (Nat.le_succ _) _), hs.below hg (bw_drew (bw_set hb6 (Nat.le_succ _) _)), by go_simp, by go_simp, by go_simp, by go_simp, by go_simp, by go_simp, by go_simp, by go_simp, by go_simp⟩
                  intro W7 ⟨hb7, hs7, k0, k1, k2, k3, k4, d0, d1, d2, _⟩
                  have Hok := Lib.hid hok
                  have hcA : Hid (∀ g c w, SR3 w g 0 (i + 1 + (n - i - 1)) (putW d xs) → Gv Try.prog 48 #[k.v, .slice (some ⟨g, 0, none⟩) (i + 1 + (n - i - 1)) c] w (.bool true)) := Lib.hid fun g c w h => hok ▸ l3Good_any k g 0 (i + 1 + (n - i - 1)) c (putW d xs) w h (by omega)
                  clear hok
                  have hg7 := hs7.1
                  have hl7 := World.block_lt_of_cell? W7 _ k0
                  have hm7 := World.block_lt_of_cell? W7 _ d0
                  simp only at hl7 hm7
                  obtain ⟨yd, hyd⟩ := exists_later (bw_drew (Below.refl W7.heap.size W7))
                  have hgd := lt_later _ yd g hg7
                  have hld := lt_later _ yd w.heap.size hl7
                  have hmd := lt_later _ yd (w.heap.size + 1) hm7
                  have kc1 : (i : Int) ≤ (n : Int) := by omega
                  have kc3 : (0 : Int) ≤ (i : Int) := by omega
                  have hxl := hl.out
                  have hF1 : Hid (∀ W, Below W7.heap.size W7 W → ∀ j u, ((xs.take i).flatMap R3.cs)[j]? = some u → W.cell? ((⟨g, off, none⟩ : Addr).add j) = some u) := Lib.hid fun W hb j u hu => by
                    rw [← flat_take, List.getElem?_take] at hu
                    split at hu
                    · exact (hs7.below hs7.1 hb).flat j u hu
                    · cases hu
                  have hF2 : Hid (∀ W, Below W7.heap.size W7 W → ∀ j u, ((xs.drop (i + 1)).flatMap R3.cs)[j]? = some u → W.cell? ((⟨g, off + i * 3 + 3, none⟩ : Addr).add j) = some u) := Lib.hid fun W hb j u hu => by
                    rw [← flat_drop, List.getElem?_drop] at hu; have h := (hs7.below hs7.1 hb).flat _ u hu; rw [addr_lit] at h ⊢; rw [← h]; congr 2; omega
                  have hl1 : Hid (((xs.take i).flatMap R3.cs).length = i * 3) := Lib.hid (by rw [flat_len R3.cs_len, List.length_take]; omega)
                  have hl2 : Hid (((xs.drop (i + 1)).flatMap R3.cs).length = (n - i - 1) * 3) := Lib.hid (by rw [flat_len R3.cs_len, List.length_drop]; omega)
                  have hins : Hid ((xs.take i).flatMap R3.cs ++ (#[Value.int .i64 d.a, Value.int .i64 d.b, Value.int .i64 (wrap64 (d.c + q.c))] : Array Value).toList ++ (xs.drop (i + 1)).flatMap R3.cs = (putW d xs).flatMap R3.cs) := Lib.hid (by rw [hput.out]; simp [R3.cs])
                  have hpl : Hid ((putW d xs).length = i + 1 + (n - i - 1)) := Lib.hid (by rw [hput.out]; simp; omega)
                  have ho1 := Lib.hid (R3.one (xs.take i))
                  have ho2 := Lib.hid (R3.one (xs.drop (i + 1)))
                  clear hxl
                  refine wp_region_C (Below W7.heap.size W7) (by kernel_rfl) ?_
                  rw [hyd]
                  clear hyd
                  ((refine step_read (i := 1) (by kernel_rfl) (by kernel_rfl) rfl (by repeat (with_reducible first | exact hbD | exact Below.refl _ _ | refine bw_later ?_ _ | refine bw_alloc ?_ _ | refine bw_drew ?_ | refine bw_set ?_ (Nat.le_refl _) _ | refine bw_set ?_ ?_ _ | exact Nat.le_refl _ | exact later_size _ _ | refine Nat.le_trans ?_ (later_size _ _) | refine Nat.le_trans ?_ (size_alloc_le _ _) | refine Nat.le_trans ?_ (Nat.le_add_right _ _))) rfl (fun K hK => ?_); apply Exists.intro; refine ⟨fun x => ?_, ?_⟩; focus (go_simp; (try go_bits); (try go_simp); (try rfl))); (go_simp; (try go_bits); refine hK _ ?_; clear hK K); (refine step_read (i := 2) (by kernel_rfl) (by kernel_rfl) rfl (by repeat (with_reducible first | exact hbD | exact Below.refl _ _ | refine bw_later ?_ _ | refine bw_alloc ?_ _ | refine bw_drew ?_ | refine bw_set ?_ (Nat.le_refl _) _ | refine bw_set ?_ ?_ _ | exact Nat.le_refl _ | exact later_size _ _ | refine Nat.le_trans ?_ (later_size _ _) | refine Nat.le_trans ?_ (size_alloc_le _ _) | refine Nat.le_trans ?_ (Nat.le_add_right _ _))) rfl (fun K hK => ?_); apply Exists.intro; refine ⟨fun x => ?_, ?_⟩; focus (go_simp; (try go_bits); (try go_simp); (try rfl))); (go_simp; (try go_bits); refine hK _ ?_; clear hK K); (refine step_read (i := 3) (by kernel_rfl) (by kernel_rfl) rfl (by repeat (with_reducible first | exact hbD | exact Below.refl _ _ | refine bw_later ?_ _ | refine bw_alloc ?_ _ | refine bw_drew ?_ | refine bw_set ?_ (Nat.le_refl _) _ | refine bw_set ?_ ?_ _ | exact Nat.le_refl _ | exact later_size _ _ | refine Nat.le_trans ?_ (later_size _ _) | refine Nat.le_trans ?_ (size_alloc_le _ _) | refine Nat.le_trans ?_ (Nat.le_add_right _ _))) rfl (fun K hK => ?_); apply Exists.intro; refine ⟨fun x => ?_, ?_⟩; focus (go_simp; (try go_bits); (try go_simp); (try rfl))); (go_simp; (try go_bits); refine hK _ ?_; clear hK K); (refine step_read (i := 5) (by kernel_rfl) (by kernel_rfl) rfl (by repeat (with_reducible first | exact hbD | exact Below.refl _ _ | refine bw_later ?_ _ | refine bw_alloc ?_ _ | refine bw_drew ?_ | refine bw_set ?_ (Nat.le_refl _) _ | refine bw_set ?_ ?_ _ | exact Nat.le_refl _ | exact later_size _ _ | refine Nat.le_trans ?_ (later_size _ _) | refine Nat.le_trans ?_ (size_alloc_le _ _) | refine Nat.le_trans ?_ (Nat.le_add_right _ _))) rfl (fun K hK => ?_); apply Exists.intro; refine ⟨fun x => ?_, ?_⟩; focus (go_simp; (try go_bits); (try go_simp); (try rfl))); (go_simp; (try go_bits); refine hK _ ?_; clear hK K); (refine step_read (i := 8) (by kernel_rfl) (by kernel_rfl) rfl (by repeat (with_reducible first | exact hbD | exact Below.refl _ _ | refine bw_later ?_ _ | refine bw_alloc ?_ _ | refine bw_drew ?_ | refine bw_set ?_ (Nat.le_refl _) _ | refine bw_set ?_ ?_ _ | exact Nat.le_refl _ | exact later_size _ _ | refine Nat.le_trans ?_ (later_size _ _) | refine Nat.le_trans ?_ (size_alloc_le _ _) | refine Nat.le_trans ?_ (Nat.le_add_right _ _))) rfl (fun K hK => ?_); apply Exists.intro; refine ⟨fun x => ?_, ?_⟩; focus (go_simp; (try go_bits); (try go_simp); (try rfl))); (go_simp; (try go_bits); refine hK _ ?_; clear hK K))
                  refine step_app3 hKind (i0 := 0) (i4 := 4) (i9 := 6) (i10 := 7) (i14 := 9) (d0 := 91) (d4 := 95) (d9 := 97) (d10 := 98) (d14 := 100) (tk := 94) (tm := 99) (tx := 96) (k := i) (m := n - i - 1) (N1 := (xs.take i).flatMap R3.cs) (N2 := (xs.drop (i + 1)).flatMap R3.cs) (X := #[.int .i64 d.a, .int .i64 d.b, .int .i64 (wrap64 (d.c + q.c))]) (by kernel_rfl) (by kernel_rfl) (by kernel_rfl) (by kernel_rfl) (by kernel_rfl) (by kernel_rfl) (by kernel_rfl) rfl rfl rfl rfl rfl (by decide) (by decide) rfl rfl rfl rfl rfl rfl rfl rfl rfl rfl rfl (by decide) (by simp) (fun ys => rfl) (fun a' w => by go_simp) (fun ys => rfl) (fun a' ha w => by have ha' : a'.tmps[96]?.getD undef = .agg #[.int .i64 d.a, .int .i64 d.b, .int .i64 (wrap64 (d.c + q.c))] := (by simpa [Act.eval] using ha); clear ha; go_simp; done) rfl hl1.out (hF1.out _ (by repeat (with_reducible first | exact hbD | exact Below.refl _ _ | refine bw_later ?_ _ | refine bw_alloc ?_ _ | refine bw_drew ?_ | refine bw_set ?_ (Nat.le_refl _) _ | refine bw_set ?_ ?_ _ | exact Nat.le_refl _ | exact later_size _ _ | refine Nat.le_trans ?_ (later_size _ _) | refine Nat.le_trans ?_ (size_alloc_le _ _) | refine Nat.le_trans ?_ (Nat.le_add_right _ _)))) ho1.out rfl hl2.out (hF2.out _ (by repeat (with_reducible first | exact hbD | exact Below.refl _ _ | refine bw_later ?_ _ | refine bw_alloc ?_ _ | refine bw_drew ?_ | refine bw_set ?_ (Nat.le_refl _) _ | refine bw_set ?_ ?_ _ | exact Nat.le_refl _ | exact later_size _ _ | refine Nat.le_trans ?_ (later_size _ _) | refine Nat.le_trans ?_ (size_alloc_le _ _) | refine Nat.le_trans ?_ (Nat.le_add_right _ _)))) ho2.out rfl (fun u hu => by simp at hu; rcases hu with rfl | rfl | rfl <;> rfl) (by omega) (by repeat (with_reducible first | exact hbD | exact Below.refl _ _ | refine bw_later ?_ _ | refine bw_alloc ?_ _ | refine bw_drew ?_ | refine bw_set ?_ (Nat.le_refl _) _ | refine bw_set ?_ ?_ _ | exact Nat.le_refl _ | exact later_size _ _ | refine Nat.le_trans ?_ (later_size _ _) | refine Nat.le_trans ?_ (size_alloc_le _ _) | refine Nat.le_trans ?_ (Nat.le_add_right _ _))) (fun K hK u0 u4 u9 u10 v yv hown => ?_)
                  rw [hins.out] at hown
                  obtain ⟨go', cap', rfl, hb1, hb2⟩ := own_slice hown (by omega)
                  have hown9 := hown
                  have hs9 := sr_own hown9 hpl.out
                  clear hown
                  go_simp
                  refine hK _ _ ?_
                  clear hK K
                  (refine step_one (i := 10) (by kernel_rfl) rfl (by repeat (with_reducible first | exact hbD | exact Below.refl _ _ | refine bw_later ?_ _ | refine bw_alloc ?_ _ | refine bw_drew ?_ | refine bw_set ?_ (Nat.le_refl _) _ | refine bw_set ?_ ?_ _ | exact Nat.le_refl _ | exact later_size _ _ | refine Nat.le_trans ?_ (later_size _ _) | refine Nat.le_trans ?_ (size_alloc_le _ _) | refine Nat.le_trans ?_ (Nat.le_add_right _ _))) (fun K hK => ?_); go_wp2; (try refine hK _ _ ?_); (try clear hK K))
                  (refine step_end (by kernel_rfl) (by repeat (with_reducible first | exact hbD | exact Below.refl _ _ | refine bw_later ?_ _ | refine bw_alloc ?_ _ | refine bw_drew ?_ | refine bw_set ?_ (Nat.le_refl _) _ | refine bw_set ?_ ?_ _ | exact Nat.le_refl _ | exact later_size _ _ | refine Nat.le_trans ?_ (later_size _ _) | refine Nat.le_trans ?_ (size_alloc_le _ _) | refine Nat.le_trans ?_ (Nat.le_add_right _ _))) ?_)
                  go_wp2_with (go_at_call 48; refine (hcA.out _ _ _ hs9).on ?_; intro xq)
                  go_ret2
                  rw [hfin.out, Hok.out]
                  rw [if_pos rfl]
                  exact R3sB.some_ (own_low (own_later hown9 xq) (Nat.le_trans hb7.size (later_size _ _))) hpl.out (by omega) (bw_trans (a := w) (b := W7) hb7 (by repeat (with_reducible first | exact hbD | exact Below.refl _ _ | refine bw_later ?_ _ | refine bw_alloc ?_ _ | refine bw_drew ?_ | refine bw_set ?_ (Nat.le_refl _) _ | refine bw_set ?_ ?_ _ | exact Nat.le_refl _ | exact later_size _ _ | refine Nat.le_trans ?_ (later_size _ _) | refine Nat.le_trans ?_ (size_alloc_le _ _) | refine Nat.le_trans ?_ (Nat.le_add_right _ _))))

          · have hyes := Lib.hid (show cmpD q d < 0 from of_decide_eq_true (by rw [hcl, e0, e1, e2]; rfl))
            clear hcl
            have e1' : (q.a == d.a) = true := by simpa using e1
            clear e1
            go_wp2_with ((with_reducible refine wp_region_later (by kernel_rfl) (by kernel_rfl) ?_); (repeat (go_big_quiet_step (fail))); refine wpQuiet_nil ?_; rintro _ ⟨xr, rfl⟩)
            go_roundw
            case rel => exact ⟨i + 1, (by repeat (with_reducible first | exact hbD | exact Below.refl _ _ | refine bw_later ?_ _ | refine bw_alloc ?_ _ | refine bw_drew ?_ | refine bw_set ?_ (Nat.le_refl _) _ | refine bw_set ?_ ?_ _ | exact Nat.le_refl _ | exact later_size _ _ | refine Nat.le_trans ?_ (later_size _ _) | refine Nat.le_trans ?_ (size_alloc_le _ _) | refine Nat.le_trans ?_ (Nat.le_add_right _ _))), by omega, by go_num, Lib.hid (fun j hj p hp => by
              rcases Nat.lt_or_ge j i with h | h
              · exact ha.out j h p hp
              · have hji : j = i := by omega
                rw [hji, hq.out] at hp
                cases hp
                exact hyes.out)⟩
            case measure => simp [intOf]; omega
      · have hyes := Lib.hid (show cmpD q d < 0 from of_decide_eq_true (by rw [hcl, e0]; rfl))
        clear hcl
        go_wp2_with ((with_reducible refine wp_region_later (by kernel_rfl) (by kernel_rfl) ?_); (repeat (go_big_quiet_step (fail))); refine wpQuiet_nil ?_; rintro _ ⟨xr, rfl⟩)
        go_roundw
        case rel => exact ⟨i + 1, (by repeat (with_reducible first | exact hbD | exact Below.refl _ _ | refine bw_later ?_ _ | refine bw_alloc ?_ _ | refine bw_drew ?_ | refine bw_set ?_ (Nat.le_refl _) _ | refine bw_set ?_ ?_ _ | exact Nat.le_refl _ | exact later_size _ _ | refine Nat.le_trans ?_ (later_size _ _) | refine Nat.le_trans ?_ (size_alloc_le _ _) | refine Nat.le_trans ?_ (Nat.le_add_right _ _))), by omega, by go_num, Lib.hid (fun j hj p hp => by
          rcases Nat.lt_or_ge j i with h | h
          · exact ha.out j h p hp
          · have hji : j = i := by omega
            rw [hji, hq.out] at hp
            cases hp
            exact hyes.out)⟩
        case measure => simp [intOf]; omega
    · obtain rfl : i = n := by omega
      have hat : atD d xs = i := atD_is (by have := hl.out; omega) ha.out (fun p hp => by have := (List.getElem?_eq_some_iff.1 hp).1; have := hl.out; omega)
      have hit : hitD d xs = false := by
        unfold hitD
        rw [hat, List.getElem?_eq_none (by have := hl.out; omega)]
      have hput := Lib.hid (show putW d xs = xs.take i ++ d :: xs.drop i by unfold putW; rw [hit, hat]; simp)
      clear hat hit
      go_wp2_with ((with_reducible refine wp_region_later (by kernel_rfl) (by kernel_rfl) ?_); (repeat (go_big_quiet_step (fail))); refine wpQuiet_nil ?_; rintro _ ⟨xr, rfl⟩)
      cases hok : okDam k (putW d xs)
      · refine settleW (R := fun W => AddW w W k ⟨d.a, d.b, d.c⟩ g off i xs) ?_ ?_
        · exact ⟨(by repeat (with_reducible first | exact hbD | exact Below.refl _ _ | refine bw_later ?_ _ | refine bw_alloc ?_ _ | refine bw_drew ?_ | refine bw_set ?_ (Nat.le_refl _) _ | refine bw_set ?_ ?_ _ | exact Nat.le_refl _ | exact later_size _ _ | refine Nat.le_trans ?_ (later_size _ _) | refine Nat.le_trans ?_ (size_alloc_le _ _) | refine Nat.le_trans ?_ (Nat.le_add_right _ _))), hs.below hg (by repeat (with_reducible first | exact hbD | exact Below.refl _ _ | refine bw_later ?_ _ | refine bw_alloc ?_ _ | refine bw_drew ?_ | refine bw_set ?_ (Nat.le_refl _) _ | refine bw_set ?_ ?_ _ | exact Nat.le_refl _ | exact later_size _ _ | refine Nat.le_trans ?_ (later_size _ _) | refine Nat.le_trans ?_ (size_alloc_le _ _) | refine Nat.le_trans ?_ (Nat.le_add_right _ _))), by go_simp, by go_simp, by go_simp, by go_simp, by go_simp, by go_simp, by go_simp, by go_simp, by go_simp⟩
        intro W7 ⟨hb7, hs7, k0, k1, k2, k3, k4, d0, d1, d2, _⟩
        have Hok := Lib.hid hok
        have hcA : Hid (∀ g c w, SR3 w g 0 (i + 1 + (0)) (putW d xs) → Gv Try.prog 48 #[k.v, .slice (some ⟨g, 0, none⟩) (i + 1 + (0)) c] w (.bool false)) := Lib.hid fun g c w h => hok ▸ l3Good_any k g 0 (i + 1 + (0)) c (putW d xs) w h (by omega)
        clear hok
        have hg7 := hs7.1
        have hl7 := World.block_lt_of_cell? W7 _ k0
        have hm7 := World.block_lt_of_cell? W7 _ d0
        simp only at hl7 hm7
        obtain ⟨yd, hyd⟩ := exists_later (bw_drew (Below.refl W7.heap.size W7))
        have hgd := lt_later _ yd g hg7
        have hld := lt_later _ yd w.heap.size hl7
        have hmd := lt_later _ yd (w.heap.size + 1) hm7
        have kc1 : (i : Int) ≤ (i : Int) := by omega
        have kc3 : (0 : Int) ≤ (i : Int) := by omega
        have hxl := hl.out
        have hF1 : Hid (∀ W, Below W7.heap.size W7 W → ∀ j u, ((xs.take i).flatMap R3.cs)[j]? = some u → W.cell? ((⟨g, off, none⟩ : Addr).add j) = some u) := Lib.hid fun W hb j u hu => by
          rw [← flat_take, List.getElem?_take] at hu
          split at hu
          · exact (hs7.below hs7.1 hb).flat j u hu
          · cases hu
        have hF2 : Hid (∀ W, Below W7.heap.size W7 W → ∀ j u, ((xs.drop (i)).flatMap R3.cs)[j]? = some u → W.cell? ((⟨g, off, none⟩ : Addr).add j) = some u) := Lib.hid fun W hb j u hu => by
          rw [List.drop_eq_nil_of_le (by omega)] at hu; simp at hu
        have hl1 : Hid (((xs.take i).flatMap R3.cs).length = i * 3) := Lib.hid (by rw [flat_len R3.cs_len, List.length_take]; omega)
        have hl2 : Hid (((xs.drop (i)).flatMap R3.cs).length = (0) * 3) := Lib.hid (by rw [flat_len R3.cs_len, List.length_drop]; omega)
        have hins : Hid ((xs.take i).flatMap R3.cs ++ (#[Value.int .i64 d.a, Value.int .i64 d.b, Value.int .i64 (d.c)] : Array Value).toList ++ (xs.drop (i)).flatMap R3.cs = (putW d xs).flatMap R3.cs) := Lib.hid (by rw [hput.out]; simp [R3.cs])
        have hpl : Hid ((putW d xs).length = i + 1 + (0)) := Lib.hid (by rw [hput.out]; simp; omega)
        have ho1 := Lib.hid (R3.one (xs.take i))
        have ho2 := Lib.hid (R3.one (xs.drop (i)))
        clear hxl
        refine wp_region_C (Below W7.heap.size W7) (by kernel_rfl) ?_
        rw [hyd]
        clear hyd
        ((refine step_read (i := 1) (by kernel_rfl) (by kernel_rfl) rfl (by repeat (with_reducible first | exact hbD | exact Below.refl _ _ | refine bw_later ?_ _ | refine bw_alloc ?_ _ | refine bw_drew ?_ | refine bw_set ?_ (Nat.le_refl _) _ | refine bw_set ?_ ?_ _ | exact Nat.le_refl _ | exact later_size _ _ | refine Nat.le_trans ?_ (later_size _ _) | refine Nat.le_trans ?_ (size_alloc_le _ _) | refine Nat.le_trans ?_ (Nat.le_add_right _ _))) rfl (fun K hK => ?_); apply Exists.intro; refine ⟨fun x => ?_, ?_⟩; focus (go_simp; (try go_bits); (try go_simp); (try rfl))); (go_simp; (try go_bits); refine hK _ ?_; clear hK K); (refine step_read (i := 2) (by kernel_rfl) (by kernel_rfl) rfl (by repeat (with_reducible first | exact hbD | exact Below.refl _ _ | refine bw_later ?_ _ | refine bw_alloc ?_ _ | refine bw_drew ?_ | refine bw_set ?_ (Nat.le_refl _) _ | refine bw_set ?_ ?_ _ | exact Nat.le_refl _ | exact later_size _ _ | refine Nat.le_trans ?_ (later_size _ _) | refine Nat.le_trans ?_ (size_alloc_le _ _) | refine Nat.le_trans ?_ (Nat.le_add_right _ _))) rfl (fun K hK => ?_); apply Exists.intro; refine ⟨fun x => ?_, ?_⟩; focus (go_simp; (try go_bits); (try go_simp); (try rfl))); (go_simp; (try go_bits); refine hK _ ?_; clear hK K); (refine step_read (i := 3) (by kernel_rfl) (by kernel_rfl) rfl (by repeat (with_reducible first | exact hbD | exact Below.refl _ _ | refine bw_later ?_ _ | refine bw_alloc ?_ _ | refine bw_drew ?_ | refine bw_set ?_ (Nat.le_refl _) _ | refine bw_set ?_ ?_ _ | exact Nat.le_refl _ | exact later_size _ _ | refine Nat.le_trans ?_ (later_size _ _) | refine Nat.le_trans ?_ (size_alloc_le _ _) | refine Nat.le_trans ?_ (Nat.le_add_right _ _))) rfl (fun K hK => ?_); apply Exists.intro; refine ⟨fun x => ?_, ?_⟩; focus (go_simp; (try go_bits); (try go_simp); (try rfl))); (go_simp; (try go_bits); refine hK _ ?_; clear hK K); (refine step_read (i := 5) (by kernel_rfl) (by kernel_rfl) rfl (by repeat (with_reducible first | exact hbD | exact Below.refl _ _ | refine bw_later ?_ _ | refine bw_alloc ?_ _ | refine bw_drew ?_ | refine bw_set ?_ (Nat.le_refl _) _ | refine bw_set ?_ ?_ _ | exact Nat.le_refl _ | exact later_size _ _ | refine Nat.le_trans ?_ (later_size _ _) | refine Nat.le_trans ?_ (size_alloc_le _ _) | refine Nat.le_trans ?_ (Nat.le_add_right _ _))) rfl (fun K hK => ?_); apply Exists.intro; refine ⟨fun x => ?_, ?_⟩; focus (go_simp; (try go_bits); (try go_simp); (try rfl))); (go_simp; (try go_bits); refine hK _ ?_; clear hK K); (refine step_read (i := 8) (by kernel_rfl) (by kernel_rfl) rfl (by repeat (with_reducible first | exact hbD | exact Below.refl _ _ | refine bw_later ?_ _ | refine bw_alloc ?_ _ | refine bw_drew ?_ | refine bw_set ?_ (Nat.le_refl _) _ | refine bw_set ?_ ?_ _ | exact Nat.le_refl _ | exact later_size _ _ | refine Nat.le_trans ?_ (later_size _ _) | refine Nat.le_trans ?_ (size_alloc_le _ _) | refine Nat.le_trans ?_ (Nat.le_add_right _ _))) rfl (fun K hK => ?_); apply Exists.intro; refine ⟨fun x => ?_, ?_⟩; focus (go_simp; (try go_bits); (try go_simp); (try rfl))); (go_simp; (try go_bits); refine hK _ ?_; clear hK K))
        refine step_app3 hKind (i0 := 0) (i4 := 4) (i9 := 6) (i10 := 7) (i14 := 9) (d0 := 91) (d4 := 95) (d9 := 97) (d10 := 98) (d14 := 100) (tk := 94) (tm := 99) (tx := 96) (k := i) (m := 0) (N1 := (xs.take i).flatMap R3.cs) (N2 := (xs.drop (i)).flatMap R3.cs) (X := #[.int .i64 d.a, .int .i64 d.b, .int .i64 (d.c)]) (by kernel_rfl) (by kernel_rfl) (by kernel_rfl) (by kernel_rfl) (by kernel_rfl) (by kernel_rfl) (by kernel_rfl) rfl rfl rfl rfl rfl (by decide) (by decide) rfl rfl rfl rfl rfl rfl rfl rfl rfl rfl rfl (by decide) (by simp) (fun ys => rfl) (fun a' w => by go_simp) (fun ys => rfl) (fun a' ha w => by have ha' : a'.tmps[96]?.getD undef = .agg #[.int .i64 d.a, .int .i64 d.b, .int .i64 (d.c)] := (by simpa [Act.eval] using ha); clear ha; go_simp; done) rfl hl1.out (hF1.out _ (by repeat (with_reducible first | exact hbD | exact Below.refl _ _ | refine bw_later ?_ _ | refine bw_alloc ?_ _ | refine bw_drew ?_ | refine bw_set ?_ (Nat.le_refl _) _ | refine bw_set ?_ ?_ _ | exact Nat.le_refl _ | exact later_size _ _ | refine Nat.le_trans ?_ (later_size _ _) | refine Nat.le_trans ?_ (size_alloc_le _ _) | refine Nat.le_trans ?_ (Nat.le_add_right _ _)))) ho1.out rfl hl2.out (hF2.out _ (by repeat (with_reducible first | exact hbD | exact Below.refl _ _ | refine bw_later ?_ _ | refine bw_alloc ?_ _ | refine bw_drew ?_ | refine bw_set ?_ (Nat.le_refl _) _ | refine bw_set ?_ ?_ _ | exact Nat.le_refl _ | exact later_size _ _ | refine Nat.le_trans ?_ (later_size _ _) | refine Nat.le_trans ?_ (size_alloc_le _ _) | refine Nat.le_trans ?_ (Nat.le_add_right _ _)))) ho2.out rfl (fun u hu => by simp at hu; rcases hu with rfl | rfl | rfl <;> rfl) (by omega) (by repeat (with_reducible first | exact hbD | exact Below.refl _ _ | refine bw_later ?_ _ | refine bw_alloc ?_ _ | refine bw_drew ?_ | refine bw_set ?_ (Nat.le_refl _) _ | refine bw_set ?_ ?_ _ | exact Nat.le_refl _ | exact later_size _ _ | refine Nat.le_trans ?_ (later_size _ _) | refine Nat.le_trans ?_ (size_alloc_le _ _) | refine Nat.le_trans ?_ (Nat.le_add_right _ _))) (fun K hK u0 u4 u9 u10 v yv hown => ?_)
        rw [hins.out] at hown
        obtain ⟨go', cap', rfl, hb1, hb2⟩ := own_slice hown (by omega)
        have hown9 := hown
        have hs9 := sr_own hown9 hpl.out
        clear hown
        go_simp
        refine hK _ _ ?_
        clear hK K
        (refine step_one (i := 10) (by kernel_rfl) rfl (by repeat (with_reducible first | exact hbD | exact Below.refl _ _ | refine bw_later ?_ _ | refine bw_alloc ?_ _ | refine bw_drew ?_ | refine bw_set ?_ (Nat.le_refl _) _ | refine bw_set ?_ ?_ _ | exact Nat.le_refl _ | exact later_size _ _ | refine Nat.le_trans ?_ (later_size _ _) | refine Nat.le_trans ?_ (size_alloc_le _ _) | refine Nat.le_trans ?_ (Nat.le_add_right _ _))) (fun K hK => ?_); go_wp2; (try refine hK _ _ ?_); (try clear hK K))
        (refine step_end (by kernel_rfl) (by repeat (with_reducible first | exact hbD | exact Below.refl _ _ | refine bw_later ?_ _ | refine bw_alloc ?_ _ | refine bw_drew ?_ | refine bw_set ?_ (Nat.le_refl _) _ | refine bw_set ?_ ?_ _ | exact Nat.le_refl _ | exact later_size _ _ | refine Nat.le_trans ?_ (later_size _ _) | refine Nat.le_trans ?_ (size_alloc_le _ _) | refine Nat.le_trans ?_ (Nat.le_add_right _ _))) ?_)
        go_wp2_with (go_at_call 48; refine (hcA.out _ _ _ hs9).on ?_; intro xq)
        go_ret2
        rw [hfin.out, Hok.out]
        rw [if_neg (by simp)]
        exact R3sB.none_ (bw_trans (a := w) (b := W7) hb7 (by repeat (with_reducible first | exact hbD | exact Below.refl _ _ | refine bw_later ?_ _ | refine bw_alloc ?_ _ | refine bw_drew ?_ | refine bw_set ?_ (Nat.le_refl _) _ | refine bw_set ?_ ?_ _ | exact Nat.le_refl _ | exact later_size _ _ | refine Nat.le_trans ?_ (later_size _ _) | refine Nat.le_trans ?_ (size_alloc_le _ _) | refine Nat.le_trans ?_ (Nat.le_add_right _ _))))
      · refine settleW (R := fun W => AddW w W k ⟨d.a, d.b, d.c⟩ g off i xs) ?_ ?_
        · exact ⟨(by repeat (with_reducible first | exact hbD | exact Below.refl _ _ | refine bw_later ?_ _ | refine bw_alloc ?_ _ | refine bw_drew ?_ | refine bw_set ?_ (Nat.le_refl _) _ | refine bw_set ?_ ?_ _ | exact Nat.le_refl _ | exact later_size _ _ | refine Nat.le_trans ?_ (later_size _ _) | refine Nat.le_trans ?_ (size_alloc_le _ _) | refine Nat.le_trans ?_ (Nat.le_add_right _ _))), hs.below hg (by repeat (with_reducible first | exact hbD | exact Below.refl _ _ | refine bw_later ?_ _ | refine bw_alloc ?_ _ | refine bw_drew ?_ | refine bw_set ?_ (Nat.le_refl _) _ | refine bw_set ?_ ?_ _ | exact Nat.le_refl _ | exact later_size _ _ | refine Nat.le_trans ?_ (later_size _ _) | refine Nat.le_trans ?_ (size_alloc_le _ _) | refine Nat.le_trans ?_ (Nat.le_add_right _ _))), by go_simp, by go_simp, by go_simp, by go_simp, by go_simp, by go_simp, by go_simp, by go_simp, by go_simp⟩
        intro W7 ⟨hb7, hs7, k0, k1, k2, k3, k4, d0, d1, d2, _⟩
        have Hok := Lib.hid hok
        have hcA : Hid (∀ g c w, SR3 w g 0 (i + 1 + (0)) (putW d xs) → Gv Try.prog 48 #[k.v, .slice (some ⟨g, 0, none⟩) (i + 1 + (0)) c] w (.bool true)) := Lib.hid fun g c w h => hok ▸ l3Good_any k g 0 (i + 1 + (0)) c (putW d xs) w h (by omega)
        clear hok
        have hg7 := hs7.1
        have hl7 := World.block_lt_of_cell? W7 _ k0
        have hm7 := World.block_lt_of_cell? W7 _ d0
        simp only at hl7 hm7
        obtain ⟨yd, hyd⟩ := exists_later (bw_drew (Below.refl W7.heap.size W7))
        have hgd := lt_later _ yd g hg7
        have hld := lt_later _ yd w.heap.size hl7
        have hmd := lt_later _ yd (w.heap.size + 1) hm7
        have kc1 : (i : Int) ≤ (i : Int) := by omega
        have kc3 : (0 : Int) ≤ (i : Int) := by omega
        have hxl := hl.out
        have hF1 : Hid (∀ W, Below W7.heap.size W7 W → ∀ j u, ((xs.take i).flatMap R3.cs)[j]? = some u → W.cell? ((⟨g, off, none⟩ : Addr).add j) = some u) := Lib.hid fun W hb j u hu => by
          rw [← flat_take, List.getElem?_take] at hu
          split at hu
          · exact (hs7.below hs7.1 hb).flat j u hu
          · cases hu
        have hF2 : Hid (∀ W, Below W7.heap.size W7 W → ∀ j u, ((xs.drop (i)).flatMap R3.cs)[j]? = some u → W.cell? ((⟨g, off, none⟩ : Addr).add j) = some u) := Lib.hid fun W hb j u hu => by
          rw [List.drop_eq_nil_of_le (by omega)] at hu; simp at hu
        have hl1 : Hid (((xs.take i).flatMap R3.cs).length = i * 3) := Lib.hid (by rw [flat_len R3.cs_len, List.length_take]; omega)
        have hl2 : Hid (((xs.drop (i)).flatMap R3.cs).length = (0) * 3) := Lib.hid (by rw [flat_len R3.cs_len, List.length_drop]; omega)
        have hins : Hid ((xs.take i).flatMap R3.cs ++ (#[Value.int .i64 d.a, Value.int .i64 d.b, Value.int .i64 (d.c)] : Array Value).toList ++ (xs.drop (i)).flatMap R3.cs = (putW d xs).flatMap R3.cs) := Lib.hid (by rw [hput.out]; simp [R3.cs])
        have hpl : Hid ((putW d xs).length = i + 1 + (0)) := Lib.hid (by rw [hput.out]; simp; omega)
        have ho1 := Lib.hid (R3.one (xs.take i))
        have ho2 := Lib.hid (R3.one (xs.drop (i)))
        clear hxl
        refine wp_region_C (Below W7.heap.size W7) (by kernel_rfl) ?_
        rw [hyd]
        clear hyd
        ((refine step_read (i := 1) (by kernel_rfl) (by kernel_rfl) rfl (by repeat (with_reducible first | exact hbD | exact Below.refl _ _ | refine bw_later ?_ _ | refine bw_alloc ?_ _ | refine bw_drew ?_ | refine bw_set ?_ (Nat.le_refl _) _ | refine bw_set ?_ ?_ _ | exact Nat.le_refl _ | exact later_size _ _ | refine Nat.le_trans ?_ (later_size _ _) | refine Nat.le_trans ?_ (size_alloc_le _ _) | refine Nat.le_trans ?_ (Nat.le_add_right _ _))) rfl (fun K hK => ?_); apply Exists.intro; refine ⟨fun x => ?_, ?_⟩; focus (go_simp; (try go_bits); (try go_simp); (try rfl))); (go_simp; (try go_bits); refine hK _ ?_; clear hK K); (refine step_read (i := 2) (by kernel_rfl) (by kernel_rfl) rfl (by repeat (with_reducible first | exact hbD | exact Below.refl _ _ | refine bw_later ?_ _ | refine bw_alloc ?_ _ | refine bw_drew ?_ | refine bw_set ?_ (Nat.le_refl _) _ | refine bw_set ?_ ?_ _ | exact Nat.le_refl _ | exact later_size _ _ | refine Nat.le_trans ?_ (later_size _ _) | refine Nat.le_trans ?_ (size_alloc_le _ _) | refine Nat.le_trans ?_ (Nat.le_add_right _ _))) rfl (fun K hK => ?_); apply Exists.intro; refine ⟨fun x => ?_, ?_⟩; focus (go_simp; (try go_bits); (try go_simp); (try rfl))); (go_simp; (try go_bits); refine hK _ ?_; clear hK K); (refine step_read (i := 3) (by kernel_rfl) (by kernel_rfl) rfl (by repeat (with_reducible first | exact hbD | exact Below.refl _ _ | refine bw_later ?_ _ | refine bw_alloc ?_ _ | refine bw_drew ?_ | refine bw_set ?_ (Nat.le_refl _) _ | refine bw_set ?_ ?_ _ | exact Nat.le_refl _ | exact later_size _ _ | refine Nat.le_trans ?_ (later_size _ _) | refine Nat.le_trans ?_ (size_alloc_le _ _) | refine Nat.le_trans ?_ (Nat.le_add_right _ _))) rfl (fun K hK => ?_); apply Exists.intro; refine ⟨fun x => ?_, ?_⟩; focus (go_simp; (try go_bits); (try go_simp); (try rfl))); (go_simp; (try go_bits); refine hK _ ?_; clear hK K); (refine step_read (i := 5) (by kernel_rfl) (by kernel_rfl) rfl (by repeat (with_reducible first | exact hbD | exact Below.refl _ _ | refine bw_later ?_ _ | refine bw_alloc ?_ _ | refine bw_drew ?_ | refine bw_set ?_ (Nat.le_refl _) _ | refine bw_set ?_ ?_ _ | exact Nat.le_refl _ | exact later_size _ _ | refine Nat.le_trans ?_ (later_size _ _) | refine Nat.le_trans ?_ (size_alloc_le _ _) | refine Nat.le_trans ?_ (Nat.le_add_right _ _))) rfl (fun K hK => ?_); apply Exists.intro; refine ⟨fun x => ?_, ?_⟩; focus (go_simp; (try go_bits); (try go_simp); (try rfl))); (go_simp; (try go_bits); refine hK _ ?_; clear hK K); (refine step_read (i := 8) (by kernel_rfl) (by kernel_rfl) rfl (by repeat (with_reducible first | exact hbD | exact Below.refl _ _ | refine bw_later ?_ _ | refine bw_alloc ?_ _ | refine bw_drew ?_ | refine bw_set ?_ (Nat.le_refl _) _ | refine bw_set ?_ ?_ _ | exact Nat.le_refl _ | exact later_size _ _ | refine Nat.le_trans ?_ (later_size _ _) | refine Nat.le_trans ?_ (size_alloc_le _ _) | refine Nat.le_trans ?_ (Nat.le_add_right _ _))) rfl (fun K hK => ?_); apply Exists.intro; refine ⟨fun x => ?_, ?_⟩; focus (go_simp; (try go_bits); (try go_simp); (try rfl))); (go_simp; (try go_bits); refine hK _ ?_; clear hK K))
        refine step_app3 hKind (i0 := 0) (i4 := 4) (i9 := 6) (i10 := 7) (i14 := 9) (d0 := 91) (d4 := 95) (d9 := 97) (d10 := 98) (d14 := 100) (tk := 94) (tm := 99) (tx := 96) (k := i) (m := 0) (N1 := (xs.take i).flatMap R3.cs) (N2 := (xs.drop (i)).flatMap R3.cs) (X := #[.int .i64 d.a, .int .i64 d.b, .int .i64 (d.c)]) (by kernel_rfl) (by kernel_rfl) (by kernel_rfl) (by kernel_rfl) (by kernel_rfl) (by kernel_rfl) (by kernel_rfl) rfl rfl rfl rfl rfl (by decide) (by decide) rfl rfl rfl rfl rfl rfl rfl rfl rfl rfl rfl (by decide) (by simp) (fun ys => rfl) (fun a' w => by go_simp) (fun ys => rfl) (fun a' ha w => by have ha' : a'.tmps[96]?.getD undef = .agg #[.int .i64 d.a, .int .i64 d.b, .int .i64 (d.c)] := (by simpa [Act.eval] using ha); clear ha; go_simp; done) rfl hl1.out (hF1.out _ (by repeat (with_reducible first | exact hbD | exact Below.refl _ _ | refine bw_later ?_ _ | refine bw_alloc ?_ _ | refine bw_drew ?_ | refine bw_set ?_ (Nat.le_refl _) _ | refine bw_set ?_ ?_ _ | exact Nat.le_refl _ | exact later_size _ _ | refine Nat.le_trans ?_ (later_size _ _) | refine Nat.le_trans ?_ (size_alloc_le _ _) | refine Nat.le_trans ?_ (Nat.le_add_right _ _)))) ho1.out rfl hl2.out (hF2.out _ (by repeat (with_reducible first | exact hbD | exact Below.refl _ _ | refine bw_later ?_ _ | refine bw_alloc ?_ _ | refine bw_drew ?_ | refine bw_set ?_ (Nat.le_refl _) _ | refine bw_set ?_ ?_ _ | exact Nat.le_refl _ | exact later_size _ _ | refine Nat.le_trans ?_ (later_size _ _) | refine Nat.le_trans ?_ (size_alloc_le _ _) | refine Nat.le_trans ?_ (Nat.le_add_right _ _)))) ho2.out rfl (fun u hu => by simp at hu; rcases hu with rfl | rfl | rfl <;> rfl) (by omega) (by repeat (with_reducible first | exact hbD | exact Below.refl _ _ | refine bw_later ?_ _ | refine bw_alloc ?_ _ | refine bw_drew ?_ | refine bw_set ?_ (Nat.le_refl _) _ | refine bw_set ?_ ?_ _ | exact Nat.le_refl _ | exact later_size _ _ | refine Nat.le_trans ?_ (later_size _ _) | refine Nat.le_trans ?_ (size_alloc_le _ _) | refine Nat.le_trans ?_ (Nat.le_add_right _ _))) (fun K hK u0 u4 u9 u10 v yv hown => ?_)
        rw [hins.out] at hown
        obtain ⟨go', cap', rfl, hb1, hb2⟩ := own_slice hown (by omega)
        have hown9 := hown
        have hs9 := sr_own hown9 hpl.out
        clear hown
        go_simp
        refine hK _ _ ?_
        clear hK K
        (refine step_one (i := 10) (by kernel_rfl) rfl (by repeat (with_reducible first | exact hbD | exact Below.refl _ _ | refine bw_later ?_ _ | refine bw_alloc ?_ _ | refine bw_drew ?_ | refine bw_set ?_ (Nat.le_refl _) _ | refine bw_set ?_ ?_ _ | exact Nat.le_refl _ | exact later_size _ _ | refine Nat.le_trans ?_ (later_size _ _) | refine Nat.le_trans ?_ (size_alloc_le _ _) | refine Nat.le_trans ?_ (Nat.le_add_right _ _))) (fun K hK => ?_); go_wp2; (try refine hK _ _ ?_); (try clear hK K))
        (refine step_end (by kernel_rfl) (by repeat (with_reducible first | exact hbD | exact Below.refl _ _ | refine bw_later ?_ _ | refine bw_alloc ?_ _ | refine bw_drew ?_ | refine bw_set ?_ (Nat.le_refl _) _ | refine bw_set ?_ ?_ _ | exact Nat.le_refl _ | exact later_size _ _ | refine Nat.le_trans ?_ (later_size _ _) | refine Nat.le_trans ?_ (size_alloc_le _ _) | refine Nat.le_trans ?_ (Nat.le_add_right _ _))) ?_)
        go_wp2_with (go_at_call 48; refine (hcA.out _ _ _ hs9).on ?_; intro xq)
        go_ret2
        rw [hfin.out, Hok.out]
        rw [if_pos rfl]
        exact R3sB.some_ (own_low (own_later hown9 xq) (Nat.le_trans hb7.size (later_size _ _))) hpl.out (by omega) (bw_trans (a := w) (b := W7) hb7 (by repeat (with_reducible first | exact hbD | exact Below.refl _ _ | refine bw_later ?_ _ | refine bw_alloc ?_ _ | refine bw_drew ?_ | refine bw_set ?_ (Nat.le_refl _) _ | refine bw_set ?_ ?_ _ | exact Nat.le_refl _ | exact later_size _ _ | refine Nat.le_trans ?_ (later_size _ _) | refine Nat.le_trans ?_ (size_alloc_le _ _) | refine Nat.le_trans ?_ (Nat.le_add_right _ _))))
end Go.Proofs.Ytagplkdeallbmaa
