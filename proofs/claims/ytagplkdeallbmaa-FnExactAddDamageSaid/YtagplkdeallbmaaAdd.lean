/- A damage added to a rope's damages: the program. -/
import Derived.Test.YtagplkdeallbmaaAddP
import Derived.Test.YtagplkdeallbmaaDamageSpec
namespace Go.Proofs.Ytagplkdeallbmaa
open Go Go.RowKit
theorem own_later {w : World} {base T size n : Nat} {v : Value} {xs : List Value} (h : w.ownsRow base T size v n xs) (x : Lat w) : (later w x).ownsRow base T size v n xs :=
  h.kept (grown_later w x none) (by cases v.ownBlock <;> simp)
theorem own_drew {w : World} {base T size n : Nat} {v : Value} {xs : List Value} (h : w.ownsRow base T size v n xs) : w.drew.ownsRow base T size v n xs := own_of_heap rfl h
theorem sr_OR3 {w : World} {lo hi g n : Nat} {xs : List R3} (hO : OR3 w lo hi (some ⟨g, 0, none⟩) n xs) (h0 : 0 < n) : SR3 w g 0 n xs := by
  obtain ⟨g', e, _, _, hg, _, h3⟩ := hO.cells h0
  simp only [Option.some.injEq, Addr.mk.injEq, and_true] at e
  subst e
  exact ⟨hg, hO.1, fun i r hi => by simpa using h3 i r hi⟩
/-- What a row of its own holds reads as a list. -/
theorem sr_own {w : World} {base T g n c : Nat} {xs : List R3} (h : w.ownsRow base T 3 (.slice (some ⟨g, 0, none⟩) n c) n (xs.flatMap R3.cs)) (hx : xs.length = n) : SR3 w g 0 n xs := by
  have hg : g < w.heap.size := by
    rcases h.2 with ⟨e, _⟩ | ⟨g', cap, cur, e, _, hg, _⟩
    · cases e
    · simp only [Value.slice.injEq, Option.some.injEq, Addr.mk.injEq, and_true, true_and] at e
      obtain ⟨rfl, rfl⟩ := e
      exact (Array.getElem?_eq_some_iff.1 hg).1
  obtain ⟨A, c', e, hO⟩ := OR3_of_own h hx
  simp only [Value.slice.injEq, true_and] at e
  obtain ⟨rfl, rfl⟩ := e
  rcases Nat.eq_zero_or_pos n with h0 | h0
  · subst h0
    have : xs = [] := List.eq_nil_of_length_eq_zero hx
    subst this
    exact ⟨hg, rfl, fun i r hi => by simp at hi⟩
  · obtain ⟨g', e, _, _, _, _, h3⟩ := hO.cells h0
    simp only [Option.some.injEq, Addr.mk.injEq, and_true] at e
    subst e
    exact ⟨hg, hx, fun i r hi => by simpa using h3 i r hi⟩
theorem dam_bd {k : R5} {d : R3} (hk : isKind k = true) (h : isDam k d = true) : 1 ≤ d.c ∧ d.c ≤ 40 := by
  obtain ⟨-, -, ⟨-, h2⟩, -, -⟩ := kind_bd hk
  simp only [isDam, Bool.and_eq_true] at h
  obtain ⟨h3, h4⟩ := inB_t h.2
  omega
theorem clone_own (g off n c : Nat) (xs : List R3) (w : World) (hs : SR3 w g off n xs) (hn : n ≤ 1048576) :
    Calls Try.prog 60 #[.slice (some ⟨g, off, none⟩) n c] w fun e w' => ∃ g2 c2, e = .returned (.slice (some ⟨g2, 0, none⟩) n c2) ∧ w'.ownsRow w.heap.size 59 3 (.slice (some ⟨g2, 0, none⟩) n c2) n (xs.flatMap R3.cs) ∧ Below w.heap.size w w' := by
  obtain ⟨i0, hi, hz0, hz1, hz2⟩ := info_parts infoCloneR3
  have hf := Lib.hid hs.flat
  have hl := Lib.hid hs.2.1
  have ho := Lib.hid (R3.one xs)
  have hg := hs.1
  have hlen : Hid ((xs.flatMap R3.cs).length = n * 3) := Lib.hid (by rw [flat_len R3.cs_len, hl.out])
  have Hi := Lib.hid hi
  have Hz0 := Lib.hid hz0
  have Hz1 := Lib.hid hz1
  have Hz2 := Lib.hid hz2
  have hq : ∀ w' : World, (binOp .eql 43 (.slice (some ⟨g, off, none⟩) n c) (.slice none 0 0)).run Try.prog w' = .ok (.bool false) w' := fun w' => Lib.run_eql_slice_nil w' _ _ (some ⟨g, off, none⟩) n c 0 0 Try.underlying43
  clear hi hz0 hz1 hz2 hs
  rcases Nat.eq_zero_or_pos n with h0 | h0
  · subst h0
    have hx : xs = [] := List.eq_nil_of_length_eq_zero hl.out
    subst hx
    go_enter Try.func60, Try.ntmps60
    go_wp2
    go_ret
    exact ⟨w.heap.size, 0, rfl, by first | exact World.ownsRow_made w #[] 0 (Nat.le_refl _) (by decide) rfl | exact own_drew (World.ownsRow_made w #[] 0 (Nat.le_refl _) (by decide) rfl), (by repeat (with_reducible first | exact hbD | exact Below.refl _ _ | refine bw_later ?_ _ | refine bw_alloc ?_ _ | refine bw_drew ?_ | refine bw_set ?_ (Nat.le_refl _) _ | refine bw_set ?_ ?_ _ | exact Nat.le_refl _ | exact later_size _ _ | refine Nat.le_trans ?_ (later_size _ _) | refine Nat.le_trans ?_ (size_alloc_le _ _) | refine Nat.le_trans ?_ (Nat.le_add_right _ _)))⟩
  go_enter Try.func60, Try.ntmps60
  go_wp2_with (at_builtin; refine push_many rfl _ _ _ rfl i0 _ 3 24 Try.underlying43 Hi.out Hz0.out Hz1.out Hz2.out rfl (by decide) _ _ _ rfl (World.ownsRow_made w #[] 0 (Nat.le_refl _) (by decide) rfl) (w0 := w) (by repeat (with_reducible first | exact hbD | exact Below.refl _ _ | refine bw_later ?_ _ | refine bw_alloc ?_ _ | refine bw_drew ?_ | refine bw_set ?_ (Nat.le_refl _) _ | refine bw_set ?_ ?_ _ | exact Nat.le_refl _ | exact later_size _ _ | refine Nat.le_trans ?_ (later_size _ _) | refine Nat.le_trans ?_ (size_alloc_le _ _) | refine Nat.le_trans ?_ (Nat.le_add_right _ _))) ⟨g, off, none⟩ n c (xs.flatMap R3.cs) rfl hlen.out (fun j u hj => (Lib.cell?_alloc_some _ (hf.out j u hj))) ho.out (by omega) (by omega) ?_; intro v1 y1 hown1 hk1)
  go_ret
  simp only [List.nil_append, Nat.zero_add] at hown1
  obtain ⟨g', c', rfl, -, -⟩ := own_slice hown1 h0
  exact ⟨_, _, rfl, hown1, (by repeat (with_reducible first | exact hbD | exact Below.refl _ _ | refine bw_later ?_ _ | refine bw_alloc ?_ _ | refine bw_drew ?_ | refine bw_set ?_ (Nat.le_refl _) _ | refine bw_set ?_ ?_ _ | exact Nat.le_refl _ | exact later_size _ _ | refine Nat.le_trans ?_ (later_size _ _) | refine Nat.le_trans ?_ (size_alloc_le _ _) | refine Nat.le_trans ?_ (Nat.le_add_right _ _)))⟩
set_option maxHeartbeats 4000000 in
theorem i_AddDamage_any (k : R5) (g off n c : Nat) (xs : List R3) (d : R3) (w : World) (hs : SR3 w g off n xs) (hn : n ≤ 1048576) : GR3 Try.prog 40 #[k.v, .slice (some ⟨g, off, none⟩) n c, d.v] w (addF k xs d) := by
  unfold GR3
  have hl := Lib.hid hs.2.1
  have hg := hs.1
  cases h0 : okDam k xs
  · have hfin := Lib.hid (show addF k xs d = ([], false) by simp [addF, h0])
    unfold R5.v R3.v
    go_enter Try.func40, Try.ntmps40
    go_wp2_with (first | (go_at_call 28; (first | refine (impl_AreDamages_any k g off n c xs _ (by first | exact hs | exact hs.later _ | exact (hs.alloc _).alloc _ | exact ((hs.alloc _).alloc _).later _) hn).onL ?_ | refine (impl_AreDamages_any k g off n c xs _ (by first | exact hs | exact hs.later _ | exact (hs.alloc _).alloc _ | exact ((hs.alloc _).alloc _).later _) hn).on ?_); intro xq) | (go_at_call 49; (first | refine (isDamage_any k d _ (okDam_t h0).1).onL ?_ | refine (isDamage_any k d _ (okDam_t h0).1).on ?_); intro xq))
    all_goals (go_ret2; rw [hfin.out]; exact R3sB.none_ (by repeat (with_reducible first | exact hbD | exact Below.refl _ _ | refine bw_later ?_ _ | refine bw_alloc ?_ _ | refine bw_drew ?_ | refine bw_set ?_ (Nat.le_refl _) _ | refine bw_set ?_ ?_ _ | exact Nat.le_refl _ | exact later_size _ _ | refine Nat.le_trans ?_ (later_size _ _) | refine Nat.le_trans ?_ (size_alloc_le _ _) | refine Nat.le_trans ?_ (Nat.le_add_right _ _))))
  cases h1 : isDam k d
  · have hfin := Lib.hid (show addF k xs d = ([], false) by simp [addF, h0, h1])
    unfold R5.v R3.v
    go_enter Try.func40, Try.ntmps40
    go_wp2_with (first | (go_at_call 28; (first | refine (impl_AreDamages_any k g off n c xs _ (by first | exact hs | exact hs.later _ | exact (hs.alloc _).alloc _ | exact ((hs.alloc _).alloc _).later _) hn).onL ?_ | refine (impl_AreDamages_any k g off n c xs _ (by first | exact hs | exact hs.later _ | exact (hs.alloc _).alloc _ | exact ((hs.alloc _).alloc _).later _) hn).on ?_); intro xq) | (go_at_call 49; (first | refine (isDamage_any k d _ (okDam_t h0).1).onL ?_ | refine (isDamage_any k d _ (okDam_t h0).1).on ?_); intro xq))
    all_goals (go_ret2; rw [hfin.out]; exact R3sB.none_ (by repeat (with_reducible first | exact hbD | exact Below.refl _ _ | refine bw_later ?_ _ | refine bw_alloc ?_ _ | refine bw_drew ?_ | refine bw_set ?_ (Nat.le_refl _) _ | refine bw_set ?_ ?_ _ | exact Nat.le_refl _ | exact later_size _ _ | refine Nat.le_trans ?_ (later_size _ _) | refine Nat.le_trans ?_ (size_alloc_le _ _) | refine Nat.le_trans ?_ (Nat.le_add_right _ _))))
  have hfin := Lib.hid (show addF k xs d = addOut k d xs by simp [addF, h0, h1])
  obtain ⟨hk, h15, hch⟩ := okDam_t h0
  have hl0 := hs.2.1
  have hmono := Lib.hid (cmpD_mono (d := d) hch)
  have Hch := Lib.hid hch
  have HK := Lib.hid hk
  have hn15 : n ≤ 15 := by omega
  clear hch hk h15
  unfold R5.v R3.v
  have hat0 := atD_le d xs
  have hat : atD d xs ≤ n := by omega
  have ho := Lib.hid (R3.one xs)
  have hd1 : Hid (∀ u ∈ d.cs, u.oneCell' = true) := Lib.hid fun u hu => R3.one [d] u (by simpa using hu)
  clear hat0
  cases hh : hitD d xs
  · have hpl : Hid ((putD d xs).length = n + 1) := Lib.hid (by rw [putD_no hh]; simp; omega)
    clear hl0
    cases hok : okDam k (putD d xs)
    · have Hok := Lib.hid hok
      have hcA : Hid (∀ g c w, SR3 w g 0 (n + 1) (putD d xs) → Gv Try.prog 28 #[k.v, .slice (some ⟨g, 0, none⟩) (n + 1) c] w (.bool false)) := Lib.hid fun g c w h => hok ▸ impl_AreDamages_any k g 0 (n + 1) c (putD d xs) w h (by omega)
      clear hok
      go_enter Try.func40, Try.ntmps40
      go_wp2_with (first | (go_at_call 28; refine (hcA.out _ _ _ hs6).on ?_; intro xq) | (go_at_call 62; refine Calls.mono (insert_any ((w.alloc (.cells #[.int .i64 k.a, .int .i64 k.b, .int .i64 k.c, .int .i64 k.d, .int .i64 k.e] 25)).alloc (.cells #[.int .i64 d.a, .int .i64 d.b, .int .i64 d.c] 59)) _ g2 n c2 (atD d xs) _ (xs.flatMap R3.cs) d.cs (hown4.alloc _) (by repeat (with_reducible first | exact hbD | exact Below.refl _ _ | refine bw_later ?_ _ | refine bw_alloc ?_ _ | refine bw_drew ?_ | refine bw_set ?_ (Nat.le_refl _) _ | refine bw_set ?_ ?_ _ | exact Nat.le_refl _ | exact later_size _ _ | refine Nat.le_trans ?_ (later_size _ _) | refine Nat.le_trans ?_ (size_alloc_le _ _) | refine Nat.le_trans ?_ (Nat.le_add_right _ _))) (heap_alloc_new _ _) rfl hd1.out ho.out (by omega) (by omega) hat) ?_; rintro _ w6 ⟨g6, c6, rfl, hown6, b6⟩; obtain ⟨y6, rfl⟩ := exists_later b6; rw [flat_ins, ← putD_no hh] at hown6; have hs6 := sr_own hown6 hpl.out; have hg6 := hs6.1; clear b6) | (go_at_call 61; refine Calls.mono (find_any g2 n c2 xs d _ hs3 (by omega) hmono.out) ?_; rintro _ w4 ⟨rfl, b4⟩; obtain ⟨z4, rfl⟩ := exists_later b4; have hown4 := own_later hown3 z4; have hg4 := lt_later _ z4 g2 hg3; simp only [hh]; clear b4 hs3) | (go_at_call 60; refine Calls.mono (clone_own g off n c xs _ (by first | exact hs | exact hs.later _ | exact (hs.alloc _).alloc _ | exact ((hs.alloc _).alloc _).later _) hn) ?_; rintro _ w3 ⟨g2, c2, rfl, hown, b3⟩; have hown3 := own_low hown (Below.size (show Below ((w.alloc (.cells #[.int .i64 k.a, .int .i64 k.b, .int .i64 k.c, .int .i64 k.d, .int .i64 k.e] 25)).alloc (.cells #[.int .i64 d.a, .int .i64 d.b, .int .i64 d.c] 59)).heap.size ((w.alloc (.cells #[.int .i64 k.a, .int .i64 k.b, .int .i64 k.c, .int .i64 k.d, .int .i64 k.e] 25)).alloc (.cells #[.int .i64 d.a, .int .i64 d.b, .int .i64 d.c] 59)) _ from (by repeat (with_reducible first | exact hbD | exact Below.refl _ _ | refine bw_later ?_ _ | refine bw_alloc ?_ _ | refine bw_drew ?_ | refine bw_set ?_ (Nat.le_refl _) _ | refine bw_set ?_ ?_ _ | exact Nat.le_refl _ | exact later_size _ _ | refine Nat.le_trans ?_ (later_size _ _) | refine Nat.le_trans ?_ (size_alloc_le _ _) | refine Nat.le_trans ?_ (Nat.le_add_right _ _))))); obtain ⟨y3, rfl⟩ := exists_later (bw_trans (a := ((w.alloc (.cells #[.int .i64 k.a, .int .i64 k.b, .int .i64 k.c, .int .i64 k.d, .int .i64 k.e] 25)).alloc (.cells #[.int .i64 d.a, .int .i64 d.b, .int .i64 d.c] 59))) (by repeat (with_reducible first | exact hbD | exact Below.refl _ _ | refine bw_later ?_ _ | refine bw_alloc ?_ _ | refine bw_drew ?_ | refine bw_set ?_ (Nat.le_refl _) _ | refine bw_set ?_ ?_ _ | exact Nat.le_refl _ | exact later_size _ _ | refine Nat.le_trans ?_ (later_size _ _) | refine Nat.le_trans ?_ (size_alloc_le _ _) | refine Nat.le_trans ?_ (Nat.le_add_right _ _))) b3); have hs3 := sr_own hown3 hl.out; have hg3 := hs3.1; clear hown b3) | (go_at_call 28; (first | refine (impl_AreDamages_any k g off n c xs _ (by first | exact hs | exact hs.later _ | exact (hs.alloc _).alloc _ | exact ((hs.alloc _).alloc _).later _) hn).onL ?_ | refine (impl_AreDamages_any k g off n c xs _ (by first | exact hs | exact hs.later _ | exact (hs.alloc _).alloc _ | exact ((hs.alloc _).alloc _).later _) hn).on ?_); intro xq) | (go_at_call 49; (first | refine (isDamage_any k d _ (okDam_t h0).1).onL ?_ | refine (isDamage_any k d _ (okDam_t h0).1).on ?_); intro xq))
      go_ret2
      rw [hfin.out]
      unfold addOut
      rw [Hok.out]
      exact R3sB.none_ (by repeat (with_reducible first | exact hbD | exact Below.refl _ _ | refine bw_later ?_ _ | refine bw_alloc ?_ _ | refine bw_drew ?_ | refine bw_set ?_ (Nat.le_refl _) _ | refine bw_set ?_ ?_ _ | exact Nat.le_refl _ | exact later_size _ _ | refine Nat.le_trans ?_ (later_size _ _) | refine Nat.le_trans ?_ (size_alloc_le _ _) | refine Nat.le_trans ?_ (Nat.le_add_right _ _)))
    · have Hok := Lib.hid hok
      have hcA : Hid (∀ g c w, SR3 w g 0 (n + 1) (putD d xs) → Gv Try.prog 28 #[k.v, .slice (some ⟨g, 0, none⟩) (n + 1) c] w (.bool true)) := Lib.hid fun g c w h => hok ▸ impl_AreDamages_any k g 0 (n + 1) c (putD d xs) w h (by omega)
      clear hok
      go_enter Try.func40, Try.ntmps40
      go_wp2_with (first | (go_at_call 28; refine (hcA.out _ _ _ hs6).on ?_; intro xq) | (go_at_call 62; refine Calls.mono (insert_any ((w.alloc (.cells #[.int .i64 k.a, .int .i64 k.b, .int .i64 k.c, .int .i64 k.d, .int .i64 k.e] 25)).alloc (.cells #[.int .i64 d.a, .int .i64 d.b, .int .i64 d.c] 59)) _ g2 n c2 (atD d xs) _ (xs.flatMap R3.cs) d.cs (hown4.alloc _) (by repeat (with_reducible first | exact hbD | exact Below.refl _ _ | refine bw_later ?_ _ | refine bw_alloc ?_ _ | refine bw_drew ?_ | refine bw_set ?_ (Nat.le_refl _) _ | refine bw_set ?_ ?_ _ | exact Nat.le_refl _ | exact later_size _ _ | refine Nat.le_trans ?_ (later_size _ _) | refine Nat.le_trans ?_ (size_alloc_le _ _) | refine Nat.le_trans ?_ (Nat.le_add_right _ _))) (heap_alloc_new _ _) rfl hd1.out ho.out (by omega) (by omega) hat) ?_; rintro _ w6 ⟨g6, c6, rfl, hown6, b6⟩; obtain ⟨y6, rfl⟩ := exists_later b6; rw [flat_ins, ← putD_no hh] at hown6; have hs6 := sr_own hown6 hpl.out; have hg6 := hs6.1; clear b6) | (go_at_call 61; refine Calls.mono (find_any g2 n c2 xs d _ hs3 (by omega) hmono.out) ?_; rintro _ w4 ⟨rfl, b4⟩; obtain ⟨z4, rfl⟩ := exists_later b4; have hown4 := own_later hown3 z4; have hg4 := lt_later _ z4 g2 hg3; simp only [hh]; clear b4 hs3) | (go_at_call 60; refine Calls.mono (clone_own g off n c xs _ (by first | exact hs | exact hs.later _ | exact (hs.alloc _).alloc _ | exact ((hs.alloc _).alloc _).later _) hn) ?_; rintro _ w3 ⟨g2, c2, rfl, hown, b3⟩; have hown3 := own_low hown (Below.size (show Below ((w.alloc (.cells #[.int .i64 k.a, .int .i64 k.b, .int .i64 k.c, .int .i64 k.d, .int .i64 k.e] 25)).alloc (.cells #[.int .i64 d.a, .int .i64 d.b, .int .i64 d.c] 59)).heap.size ((w.alloc (.cells #[.int .i64 k.a, .int .i64 k.b, .int .i64 k.c, .int .i64 k.d, .int .i64 k.e] 25)).alloc (.cells #[.int .i64 d.a, .int .i64 d.b, .int .i64 d.c] 59)) _ from (by repeat (with_reducible first | exact hbD | exact Below.refl _ _ | refine bw_later ?_ _ | refine bw_alloc ?_ _ | refine bw_drew ?_ | refine bw_set ?_ (Nat.le_refl _) _ | refine bw_set ?_ ?_ _ | exact Nat.le_refl _ | exact later_size _ _ | refine Nat.le_trans ?_ (later_size _ _) | refine Nat.le_trans ?_ (size_alloc_le _ _) | refine Nat.le_trans ?_ (Nat.le_add_right _ _))))); obtain ⟨y3, rfl⟩ := exists_later (bw_trans (a := ((w.alloc (.cells #[.int .i64 k.a, .int .i64 k.b, .int .i64 k.c, .int .i64 k.d, .int .i64 k.e] 25)).alloc (.cells #[.int .i64 d.a, .int .i64 d.b, .int .i64 d.c] 59))) (by repeat (with_reducible first | exact hbD | exact Below.refl _ _ | refine bw_later ?_ _ | refine bw_alloc ?_ _ | refine bw_drew ?_ | refine bw_set ?_ (Nat.le_refl _) _ | refine bw_set ?_ ?_ _ | exact Nat.le_refl _ | exact later_size _ _ | refine Nat.le_trans ?_ (later_size _ _) | refine Nat.le_trans ?_ (size_alloc_le _ _) | refine Nat.le_trans ?_ (Nat.le_add_right _ _))) b3); have hs3 := sr_own hown3 hl.out; have hg3 := hs3.1; clear hown b3) | (go_at_call 28; (first | refine (impl_AreDamages_any k g off n c xs _ (by first | exact hs | exact hs.later _ | exact (hs.alloc _).alloc _ | exact ((hs.alloc _).alloc _).later _) hn).onL ?_ | refine (impl_AreDamages_any k g off n c xs _ (by first | exact hs | exact hs.later _ | exact (hs.alloc _).alloc _ | exact ((hs.alloc _).alloc _).later _) hn).on ?_); intro xq) | (go_at_call 49; (first | refine (isDamage_any k d _ (okDam_t h0).1).onL ?_ | refine (isDamage_any k d _ (okDam_t h0).1).on ?_); intro xq))
      go_ret2
      rw [hfin.out]
      unfold addOut
      rw [Hok.out]
      exact R3sB.some_ (own_low (own_later hown6 xq) (by simp; omega)) hpl.out (by omega) (by repeat (with_reducible first | exact hbD | exact Below.refl _ _ | refine bw_later ?_ _ | refine bw_alloc ?_ _ | refine bw_drew ?_ | refine bw_set ?_ (Nat.le_refl _) _ | refine bw_set ?_ ?_ _ | exact Nat.le_refl _ | exact later_size _ _ | refine Nat.le_trans ?_ (later_size _ _) | refine Nat.le_trans ?_ (size_alloc_le _ _) | refine Nat.le_trans ?_ (Nat.le_add_right _ _)))
  · obtain ⟨q, hq, eq1, eq2⟩ := hitD_at hh
    have hpq := putD_hit hh hq
    have hqn : atD d xs < n := by have := (List.getElem?_eq_some_iff.1 hq).1; omega
    have hqc := chain_each Hch.out hq
    obtain ⟨-, -, -⟩ := kind_bd HK.out
    have hqb : 1 ≤ q.c ∧ q.c ≤ 40 := dam_bd HK.out hqc
    have hdb : 1 ≤ d.c ∧ d.c ≤ 40 := dam_bd HK.out h1
    obtain ⟨u1, u2⟩ := hqb
    obtain ⟨v1, v2⟩ := hdb
    have hpl : Hid ((putD d xs).length = n) := Lib.hid (by rw [hpq]; simp; omega)
    have Hpq := Lib.hid hpq
    have Hq := Lib.hid hq
    clear hl0 hpq hq eq1 eq2 hqc
    cases hok : okDam k (putD d xs)
    · have Hok := Lib.hid hok
      have hcA : Hid (∀ g c w, SR3 w g 0 n (putD d xs) → Gv Try.prog 28 #[k.v, .slice (some ⟨g, 0, none⟩) n c] w (.bool false)) := Lib.hid fun g c w h => hok ▸ impl_AreDamages_any k g 0 n c (putD d xs) w h hn
      clear hok
      go_enter Try.func40, Try.ntmps40
      go_wp2_with (first | (go_at_call 61; refine Calls.mono (find_any g2 n c2 xs d _ hs3 (by omega) hmono.out) ?_; rintro _ w4 ⟨rfl, b4⟩; obtain ⟨z4, rfl⟩ := exists_later b4; have hown4 := own_later hown3 z4; have hg4 := lt_later _ z4 g2 hg3; simp only [hh]; have hs4 := sr_own hown4 hl.out; obtain ⟨c0, c1, c2c⟩ := hs4.2.2 _ q Hq.out; simp only [Nat.zero_add] at c0 c1 c2c; obtain ⟨A4, c4, e4, hO4⟩ := OR3_of_own hown4 hl.out; simp only [Value.slice.injEq, true_and] at e4; obtain ⟨rfl, rfl⟩ := e4; obtain ⟨g4, e4, hgb4, -, -, fz4, -⟩ := hO4.cells (by omega); simp only [Option.some.injEq, Addr.mk.injEq, and_true] at e4; subst e4; have fz := fz4 (atD d xs * 3 + 2); clear b4 hs3) | (go_at_call 60; refine Calls.mono (clone_own g off n c xs _ (by first | exact hs | exact hs.later _ | exact (hs.alloc _).alloc _ | exact ((hs.alloc _).alloc _).later _) hn) ?_; rintro _ w3 ⟨g2, c2, rfl, hown, b3⟩; have hown3 := own_low hown (Below.size (show Below ((w.alloc (.cells #[.int .i64 k.a, .int .i64 k.b, .int .i64 k.c, .int .i64 k.d, .int .i64 k.e] 25)).alloc (.cells #[.int .i64 d.a, .int .i64 d.b, .int .i64 d.c] 59)).heap.size ((w.alloc (.cells #[.int .i64 k.a, .int .i64 k.b, .int .i64 k.c, .int .i64 k.d, .int .i64 k.e] 25)).alloc (.cells #[.int .i64 d.a, .int .i64 d.b, .int .i64 d.c] 59)) _ from (by repeat (with_reducible first | exact hbD | exact Below.refl _ _ | refine bw_later ?_ _ | refine bw_alloc ?_ _ | refine bw_drew ?_ | refine bw_set ?_ (Nat.le_refl _) _ | refine bw_set ?_ ?_ _ | exact Nat.le_refl _ | exact later_size _ _ | refine Nat.le_trans ?_ (later_size _ _) | refine Nat.le_trans ?_ (size_alloc_le _ _) | refine Nat.le_trans ?_ (Nat.le_add_right _ _))))); obtain ⟨y3, rfl⟩ := exists_later (bw_trans (a := ((w.alloc (.cells #[.int .i64 k.a, .int .i64 k.b, .int .i64 k.c, .int .i64 k.d, .int .i64 k.e] 25)).alloc (.cells #[.int .i64 d.a, .int .i64 d.b, .int .i64 d.c] 59))) (by repeat (with_reducible first | exact hbD | exact Below.refl _ _ | refine bw_later ?_ _ | refine bw_alloc ?_ _ | refine bw_drew ?_ | refine bw_set ?_ (Nat.le_refl _) _ | refine bw_set ?_ ?_ _ | exact Nat.le_refl _ | exact later_size _ _ | refine Nat.le_trans ?_ (later_size _ _) | refine Nat.le_trans ?_ (size_alloc_le _ _) | refine Nat.le_trans ?_ (Nat.le_add_right _ _))) b3); have hs3 := sr_own hown3 hl.out; have hg3 := hs3.1; clear hown b3) | (go_at_call 28; (first | refine (impl_AreDamages_any k g off n c xs _ (by first | exact hs | exact hs.later _ | exact (hs.alloc _).alloc _ | exact ((hs.alloc _).alloc _).later _) hn).onL ?_ | refine (impl_AreDamages_any k g off n c xs _ (by first | exact hs | exact hs.later _ | exact (hs.alloc _).alloc _ | exact ((hs.alloc _).alloc _).later _) hn).on ?_); intro xq) | (go_at_call 49; (first | refine (isDamage_any k d _ (okDam_t h0).1).onL ?_ | refine (isDamage_any k d _ (okDam_t h0).1).on ?_); intro xq))
      have hbW : Below ((w.alloc (.cells #[.int .i64 k.a, .int .i64 k.b, .int .i64 k.c, .int .i64 k.d, .int .i64 k.e] 25)).alloc (.cells #[.int .i64 d.a, .int .i64 d.b, .int .i64 d.c] 59)).heap.size ((w.alloc (.cells #[.int .i64 k.a, .int .i64 k.b, .int .i64 k.c, .int .i64 k.d, .int .i64 k.e] 25)).alloc (.cells #[.int .i64 d.a, .int .i64 d.b, .int .i64 d.c] 59)) (later (later ((w.alloc (.cells #[.int .i64 k.a, .int .i64 k.b, .int .i64 k.c, .int .i64 k.d, .int .i64 k.e] 25)).alloc (.cells #[.int .i64 d.a, .int .i64 d.b, .int .i64 d.c] 59)) y3) z4) := (by repeat (with_reducible first | exact hbD | exact Below.refl _ _ | refine bw_later ?_ _ | refine bw_alloc ?_ _ | refine bw_drew ?_ | refine bw_set ?_ (Nat.le_refl _) _ | refine bw_set ?_ ?_ _ | exact Nat.le_refl _ | exact later_size _ _ | refine Nat.le_trans ?_ (later_size _ _) | refine Nat.le_trans ?_ (size_alloc_le _ _) | refine Nat.le_trans ?_ (Nat.le_add_right _ _)))
      have hE : (later (later ((w.alloc (.cells #[.int .i64 k.a, .int .i64 k.b, .int .i64 k.c, .int .i64 k.d, .int .i64 k.e] 25)).alloc (.cells #[.int .i64 d.a, .int .i64 d.b, .int .i64 d.c] 59)) y3) z4).cell? ⟨w.heap.size + 1, 2, none⟩ = some (.int .i64 d.c) := by go_simp
      have hown := hown4
      clear hown3 hown4
      generalize (later (later ((w.alloc (.cells #[.int .i64 k.a, .int .i64 k.b, .int .i64 k.c, .int .i64 k.d, .int .i64 k.e] 25)).alloc (.cells #[.int .i64 d.a, .int .i64 d.b, .int .i64 d.c] 59)) y3) z4) = W4 at *
      go_region
      have hO5 := hO4.put2 Hq.out (q.c + d.c)
      rw [← Hpq.out] at hO5
      have hst : W4.heap.size ≤ (W4.setCell ⟨g2, atD d xs * 3 + 2, none⟩ (.int .i64 (q.c + d.c))).drew.heap.size := ((Tch.refl W4 g2 (g2 + 1)).put (i := atD d xs * 3 + 2) (.int .i64 (q.c + d.c))).size
      have hO6 : OR3 (W4.setCell ⟨g2, atD d xs * 3 + 2, none⟩ (.int .i64 (q.c + d.c))).drew ((w.alloc (.cells #[.int .i64 k.a, .int .i64 k.b, .int .i64 k.c, .int .i64 k.d, .int .i64 k.e] 25)).alloc (.cells #[.int .i64 d.a, .int .i64 d.b, .int .i64 d.c] 59)).heap.size (W4.setCell ⟨g2, atD d xs * 3 + 2, none⟩ (.int .i64 (q.c + d.c))).drew.heap.size (some ⟨g2, 0, none⟩) n (putD d xs) := hO5.wide (Nat.le_refl _) hst
      have hb5 : Below ((w.alloc (.cells #[.int .i64 k.a, .int .i64 k.b, .int .i64 k.c, .int .i64 k.d, .int .i64 k.e] 25)).alloc (.cells #[.int .i64 d.a, .int .i64 d.b, .int .i64 d.c] 59)).heap.size ((w.alloc (.cells #[.int .i64 k.a, .int .i64 k.b, .int .i64 k.c, .int .i64 k.d, .int .i64 k.e] 25)).alloc (.cells #[.int .i64 d.a, .int .i64 d.b, .int .i64 d.c] 59)) (W4.setCell ⟨g2, atD d xs * 3 + 2, none⟩ (.int .i64 (q.c + d.c))).drew := bw_drew (bw_set hbW hgb4 _)
      obtain ⟨y5, hy5⟩ := exists_later hb5
      rw [hy5] at hO6 ⊢
      clear hO5 hst hb5 hy5 hO4 fz c0 c1 c2c hE hown hbW
      have hs6 := sr_OR3 hO6 (by omega)
      have hg6 := hs6.1
      go_wp2_with (go_at_call 28; refine (hcA.out _ _ _ hs6).on ?_; intro xq)
      go_ret2
      rw [hfin.out]
      unfold addOut
      rw [Hok.out]
      exact R3sB.none_ (by repeat (with_reducible first | exact hbD | exact Below.refl _ _ | refine bw_later ?_ _ | refine bw_alloc ?_ _ | refine bw_drew ?_ | refine bw_set ?_ (Nat.le_refl _) _ | refine bw_set ?_ ?_ _ | exact Nat.le_refl _ | exact later_size _ _ | refine Nat.le_trans ?_ (later_size _ _) | refine Nat.le_trans ?_ (size_alloc_le _ _) | refine Nat.le_trans ?_ (Nat.le_add_right _ _)))
    · have Hok := Lib.hid hok
      have hcA : Hid (∀ g c w, SR3 w g 0 n (putD d xs) → Gv Try.prog 28 #[k.v, .slice (some ⟨g, 0, none⟩) n c] w (.bool true)) := Lib.hid fun g c w h => hok ▸ impl_AreDamages_any k g 0 n c (putD d xs) w h hn
      clear hok
      go_enter Try.func40, Try.ntmps40
      go_wp2_with (first | (go_at_call 61; refine Calls.mono (find_any g2 n c2 xs d _ hs3 (by omega) hmono.out) ?_; rintro _ w4 ⟨rfl, b4⟩; obtain ⟨z4, rfl⟩ := exists_later b4; have hown4 := own_later hown3 z4; have hg4 := lt_later _ z4 g2 hg3; simp only [hh]; have hs4 := sr_own hown4 hl.out; obtain ⟨c0, c1, c2c⟩ := hs4.2.2 _ q Hq.out; simp only [Nat.zero_add] at c0 c1 c2c; obtain ⟨A4, c4, e4, hO4⟩ := OR3_of_own hown4 hl.out; simp only [Value.slice.injEq, true_and] at e4; obtain ⟨rfl, rfl⟩ := e4; obtain ⟨g4, e4, hgb4, -, -, fz4, -⟩ := hO4.cells (by omega); simp only [Option.some.injEq, Addr.mk.injEq, and_true] at e4; subst e4; have fz := fz4 (atD d xs * 3 + 2); clear b4 hs3) | (go_at_call 60; refine Calls.mono (clone_own g off n c xs _ (by first | exact hs | exact hs.later _ | exact (hs.alloc _).alloc _ | exact ((hs.alloc _).alloc _).later _) hn) ?_; rintro _ w3 ⟨g2, c2, rfl, hown, b3⟩; have hown3 := own_low hown (Below.size (show Below ((w.alloc (.cells #[.int .i64 k.a, .int .i64 k.b, .int .i64 k.c, .int .i64 k.d, .int .i64 k.e] 25)).alloc (.cells #[.int .i64 d.a, .int .i64 d.b, .int .i64 d.c] 59)).heap.size ((w.alloc (.cells #[.int .i64 k.a, .int .i64 k.b, .int .i64 k.c, .int .i64 k.d, .int .i64 k.e] 25)).alloc (.cells #[.int .i64 d.a, .int .i64 d.b, .int .i64 d.c] 59)) _ from (by repeat (with_reducible first | exact hbD | exact Below.refl _ _ | refine bw_later ?_ _ | refine bw_alloc ?_ _ | refine bw_drew ?_ | refine bw_set ?_ (Nat.le_refl _) _ | refine bw_set ?_ ?_ _ | exact Nat.le_refl _ | exact later_size _ _ | refine Nat.le_trans ?_ (later_size _ _) | refine Nat.le_trans ?_ (size_alloc_le _ _) | refine Nat.le_trans ?_ (Nat.le_add_right _ _))))); obtain ⟨y3, rfl⟩ := exists_later (bw_trans (a := ((w.alloc (.cells #[.int .i64 k.a, .int .i64 k.b, .int .i64 k.c, .int .i64 k.d, .int .i64 k.e] 25)).alloc (.cells #[.int .i64 d.a, .int .i64 d.b, .int .i64 d.c] 59))) (by repeat (with_reducible first | exact hbD | exact Below.refl _ _ | refine bw_later ?_ _ | refine bw_alloc ?_ _ | refine bw_drew ?_ | refine bw_set ?_ (Nat.le_refl _) _ | refine bw_set ?_ ?_ _ | exact Nat.le_refl _ | exact later_size _ _ | refine Nat.le_trans ?_ (later_size _ _) | refine Nat.le_trans ?_ (size_alloc_le _ _) | refine Nat.le_trans ?_ (Nat.le_add_right _ _))) b3); have hs3 := sr_own hown3 hl.out; have hg3 := hs3.1; clear hown b3) | (go_at_call 28; (first | refine (impl_AreDamages_any k g off n c xs _ (by first | exact hs | exact hs.later _ | exact (hs.alloc _).alloc _ | exact ((hs.alloc _).alloc _).later _) hn).onL ?_ | refine (impl_AreDamages_any k g off n c xs _ (by first | exact hs | exact hs.later _ | exact (hs.alloc _).alloc _ | exact ((hs.alloc _).alloc _).later _) hn).on ?_); intro xq) | (go_at_call 49; (first | refine (isDamage_any k d _ (okDam_t h0).1).onL ?_ | refine (isDamage_any k d _ (okDam_t h0).1).on ?_); intro xq))
      have hbW : Below ((w.alloc (.cells #[.int .i64 k.a, .int .i64 k.b, .int .i64 k.c, .int .i64 k.d, .int .i64 k.e] 25)).alloc (.cells #[.int .i64 d.a, .int .i64 d.b, .int .i64 d.c] 59)).heap.size ((w.alloc (.cells #[.int .i64 k.a, .int .i64 k.b, .int .i64 k.c, .int .i64 k.d, .int .i64 k.e] 25)).alloc (.cells #[.int .i64 d.a, .int .i64 d.b, .int .i64 d.c] 59)) (later (later ((w.alloc (.cells #[.int .i64 k.a, .int .i64 k.b, .int .i64 k.c, .int .i64 k.d, .int .i64 k.e] 25)).alloc (.cells #[.int .i64 d.a, .int .i64 d.b, .int .i64 d.c] 59)) y3) z4) := (by repeat (with_reducible first | exact hbD | exact Below.refl _ _ | refine bw_later ?_ _ | refine bw_alloc ?_ _ | refine bw_drew ?_ | refine bw_set ?_ (Nat.le_refl _) _ | refine bw_set ?_ ?_ _ | exact Nat.le_refl _ | exact later_size _ _ | refine Nat.le_trans ?_ (later_size _ _) | refine Nat.le_trans ?_ (size_alloc_le _ _) | refine Nat.le_trans ?_ (Nat.le_add_right _ _)))
      have hE : (later (later ((w.alloc (.cells #[.int .i64 k.a, .int .i64 k.b, .int .i64 k.c, .int .i64 k.d, .int .i64 k.e] 25)).alloc (.cells #[.int .i64 d.a, .int .i64 d.b, .int .i64 d.c] 59)) y3) z4).cell? ⟨w.heap.size + 1, 2, none⟩ = some (.int .i64 d.c) := by go_simp
      have hown := hown4
      clear hown3 hown4
      generalize (later (later ((w.alloc (.cells #[.int .i64 k.a, .int .i64 k.b, .int .i64 k.c, .int .i64 k.d, .int .i64 k.e] 25)).alloc (.cells #[.int .i64 d.a, .int .i64 d.b, .int .i64 d.c] 59)) y3) z4) = W4 at *
      go_region
      have hO5 := hO4.put2 Hq.out (q.c + d.c)
      rw [← Hpq.out] at hO5
      have hst : W4.heap.size ≤ (W4.setCell ⟨g2, atD d xs * 3 + 2, none⟩ (.int .i64 (q.c + d.c))).drew.heap.size := ((Tch.refl W4 g2 (g2 + 1)).put (i := atD d xs * 3 + 2) (.int .i64 (q.c + d.c))).size
      have hO6 : OR3 (W4.setCell ⟨g2, atD d xs * 3 + 2, none⟩ (.int .i64 (q.c + d.c))).drew ((w.alloc (.cells #[.int .i64 k.a, .int .i64 k.b, .int .i64 k.c, .int .i64 k.d, .int .i64 k.e] 25)).alloc (.cells #[.int .i64 d.a, .int .i64 d.b, .int .i64 d.c] 59)).heap.size (W4.setCell ⟨g2, atD d xs * 3 + 2, none⟩ (.int .i64 (q.c + d.c))).drew.heap.size (some ⟨g2, 0, none⟩) n (putD d xs) := hO5.wide (Nat.le_refl _) hst
      have hb5 : Below ((w.alloc (.cells #[.int .i64 k.a, .int .i64 k.b, .int .i64 k.c, .int .i64 k.d, .int .i64 k.e] 25)).alloc (.cells #[.int .i64 d.a, .int .i64 d.b, .int .i64 d.c] 59)).heap.size ((w.alloc (.cells #[.int .i64 k.a, .int .i64 k.b, .int .i64 k.c, .int .i64 k.d, .int .i64 k.e] 25)).alloc (.cells #[.int .i64 d.a, .int .i64 d.b, .int .i64 d.c] 59)) (W4.setCell ⟨g2, atD d xs * 3 + 2, none⟩ (.int .i64 (q.c + d.c))).drew := bw_drew (bw_set hbW hgb4 _)
      obtain ⟨y5, hy5⟩ := exists_later hb5
      rw [hy5] at hO6 ⊢
      clear hO5 hst hb5 hy5 hO4 fz c0 c1 c2c hE hown hbW
      have hs6 := sr_OR3 hO6 (by omega)
      have hg6 := hs6.1
      go_wp2_with (go_at_call 28; refine (hcA.out _ _ _ hs6).on ?_; intro xq)
      go_ret2
      rw [hfin.out]
      unfold addOut
      rw [Hok.out]
      exact ⟨_, n, c2, rfl, (hO6.below2 (later_below _ _)).wide (by simp; omega) (later_size _ _), hn, (by repeat (with_reducible first | exact hbD | exact Below.refl _ _ | refine bw_later ?_ _ | refine bw_alloc ?_ _ | refine bw_drew ?_ | refine bw_set ?_ (Nat.le_refl _) _ | refine bw_set ?_ ?_ _ | exact Nat.le_refl _ | exact later_size _ _ | refine Nat.le_trans ?_ (later_size _ _) | refine Nat.le_trans ?_ (size_alloc_le _ _) | refine Nat.le_trans ?_ (Nat.le_add_right _ _)))⟩
end Go.Proofs.Ytagplkdeallbmaa
