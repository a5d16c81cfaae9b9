/- The line with a text: the program. -/
import Derived.Test.YteakffedlojcmaaDoorRNum
import Derived.Test.YteakffedlojcmaaDoorFirst
namespace Go.Proofs.YteakffedlojcmaaDoor
open Go.RowKit
theorem infoSup : (Tryd.prog.info? 61).map (fun i => (i.zero, i.size, i.bytes)) = some (some (.agg #[.int .i64 0, .int .i64 0, .bool false]), 3, 24) := by kernel_rfl
/-- The first element appended to an empty slice that is not nil: all that was there stays. -/
theorem push_first_keep {P : Program} {ops : Array Oper} {rest : List Oper} {o : Oper} {a : Act} {Q : Exit → Act → World → Prop} {W w0 : World} {cells : Array Value} {e : TypeId} (hgd : o.guard = none) (s x : Operand) (t : TypeId)
    (ho : o.op = .call { callee := .builtin .append, args := #[s, x], argTypes := #[t, t] })
    (i : TypeInfo) (z : Value) (size bytes : Nat) (ht : P.underlying t = some (.slice e)) (hi : P.info? e = some i) (hz : i.zero = some z)
    (hsize : i.size = size) (hby : i.bytes = bytes) (hzs : z.cells.size = size)
    (b0 : Addr) (hs : a.eval s = .slice (some b0) 0 0) (hb : Below w0.heap.size w0 W)
    (g : Nat) (hgw : g = W.heap.size) (hx : a.eval x = .slice (some ⟨g, 0, none⟩) 1 1) (hc : cells.size = size) (hbs : bytes ≤ 64)
    (h : ∀ v' (y : Lat w0), (later w0 y).ownsRow w0.heap.size e size v' 1 cells.toList → (∀ k, k < W.heap.size → (later w0 y).heap[k]? = W.heap[k]?) → wpList P ops Q rest (a.put o.dst v') (later w0 y)) :
    wpList P ops Q (o :: rest) a (W.alloc (.cells cells e)) :=
  push_first hgd s x t ho i z size bytes ht hi hz hsize hby hzs b0 hs (w0 := W) (Below.refl _ _) g hgw hx hc hbs fun v' y hown => by
    obtain ⟨y1, h1⟩ := exists_later (bw_trans hb (later_below W y))
    have hk : ∀ k, k < W.heap.size → (later W y).heap[k]? = W.heap[k]? := fun k hk => (later_below W y).block k hk
    have ho := own_lower hown hb.size
    rw [h1] at hk ho ⊢
    exact h v' y1 ho hk
theorem own_kept {w w' : World} {base T size n : Nat} {v : Value} {xs : List Value} (h : w.ownsRow base T size v n xs) (hb : Below w.heap.size w w') : w'.ownsRow base T size v n xs := by
  obtain ⟨x, rfl⟩ := exists_later hb
  exact own_later h x
theorem sup_of_own {w' : World} {base T n cap g : Nat} {xs : List Sup} (h : w'.ownsRow base T 3 (.slice (some ⟨g, 0, none⟩) n cap) n (xs.flatMap Sup.cs)) (hx : xs.length = n) (hn : 0 < n) : SSup w' g 0 n xs := by
  obtain ⟨A, c, e, ho⟩ := OSup_of_own h hx
  simp only [Value.slice.injEq] at e
  obtain ⟨rfl, -, -⟩ := e
  obtain ⟨g', off, e', hs⟩ := ho.reads.2 hn
  obtain ⟨g2, e2, -⟩ := ho.cells hn
  simp only [Option.some.injEq, Addr.mk.injEq, and_true] at e' e2
  obtain ⟨rfl, rfl⟩ := e'
  exact hs
theorem rn_no {s : ByteArray} {c : UInt8} {k : Nat} (h : (rnF s c k).2 = false) : rnF s c k = ([], false) := by
  unfold rnF at *
  split at h
  · cases h
  · rw [if_neg (by assumption)]
theorem rn_two {s : ByteArray} {c : UInt8} (h : (rnF s c 2).2 = true) : ∃ a b, rnF s c 2 = ([a, b], true) := by
  unfold rnF at *
  split at h
  · rename_i h2
    rw [if_pos h2]
    match hp : splitS s c, h2.1 with
    | [p, q], _ => exact ⟨_, _, rfl⟩
  · cases h
theorem supI_short {p : ByteArray} (h : p.size < 2) : supI p = none := by unfold supI; rw [if_pos h]
theorem supI_no {p : ByteArray} (h : (rnF (p.extract 1 p.size) 58 2).2 = false) : supI p = none := by
  unfold supI
  split
  · rfl
  · rw [if_neg (by rw [h]; decide)]
theorem supI_yes {p : ByteArray} {a b : Int} (h0 : ¬ p.size < 2) (h : rnF (p.extract 1 p.size) 58 2 = ([a, b], true)) : supI p = some ⟨a, b, decide (p.data.toList[0]? = some 83)⟩ := by
  unfold supI
  rw [if_neg h0, h]
  rfl
theorem byte83 {p : ByteArray} (h : 0 < p.size) : (((p[0]'h).toNat : Int) == 83) = decide (p.data.toList[0]? = some 83) := by
  have e : p.data.toList[0]? = some (p[0]'h) := by
    rw [List.getElem?_eq_getElem (by simpa using h)]
    rfl
  rw [e]
  by_cases hq : p[0]'h = 83
  · simp [hq]
  · have : (p[0]'h).toNat ≠ 83 := fun e => hq (UInt8.toNat_inj.1 e)
    have h2 : (((p[0]'h).toNat : Int) == 83) = false := by rw [beq_eq_false_iff_ne]; omega
    rw [h2]
    simp [hq]
theorem readsI : Reads supI := fun _ h => supI_of h
set_option maxHeartbeats 4000000 in
set_option maxRecDepth 20000 in
theorem i_ParseLine_any (s : ByteArray) (hsz : s.size ≤ 1048576) (w : World) (ht : Tab w) (he : Ers w) (hm : Mx w) : GSup Tryd.prog 29 #[.string s] w (plF s) := by
  unfold GSup
  obtain ⟨i0, hi, hz0, hz1, hz2⟩ := info_parts infoSup
  have Hi := Lib.hid hi
  have Hz0 := Lib.hid hz0
  have Hz1 := Lib.hid hz1
  have Hz2 := Lib.hid hz2
  clear hi hz0 hz1 hz2
  have hp0 := splitS_pos s 32
  have hl0 := splitS_len s 32
  go_enter Tryd.func29, Tryd.ntmps29
  go_wp2_with (go_at_call 37; refine Calls.mono (splitlib_any s 32 hsz _ (hm.alloc _)) ?_; rintro _ w1 ⟨g, cap, rfl, hg, hown, hb0⟩; have hC := Lib.hid (strs_cells hown); have HB1 := Lib.hid (bw_trans (bw_alloc (Below.refl w.heap.size w) (.cells #[] 61)) hb0); have ht1 := ht.keep HB1.out; have he1 := he.keep HB1.out; have hm1 := hm.keep HB1.out; have hgl : g < w1.heap.size := (own_slice hown hp0).elim fun g2 ⟨_, e, _, h⟩ => (by simp only [Value.slice.injEq, Option.some.injEq, Addr.mk.injEq] at e; rw [e.1.1]; exact h); clear hown hb0)
  go_loopw [4, 13] (fun t i wr => ∃ (j : Nat) (ys : List Sup), Below w1.heap.size w1 wr ∧ j ≤ (splitS s 32).length ∧ i = .int .i64 (j : Int) ∧ j ≤ 8 ∧ ((t = .slice (some ⟨w.heap.size, 0, none⟩) 0 0 ∧ j = 0 ∧ ys = []) ∨ (0 < j ∧ wr.ownsRow w1.heap.size 61 3 t j (ys.flatMap Sup.cs))) ∧ Hid (Got supI s j ys)) (fun _ i _ => (splitS s 32).length - (intOf i).toNat)
  case atStart => exact ⟨0, [], Below.refl _ _, by omega, rfl, by omega, .inl ⟨rfl, rfl, rfl⟩, Lib.hid (Got.start supI s)⟩
  case round =>
    obtain ⟨j, ys, hbw, hj, rfl, hj8, hor, hG⟩ := hrel
    obtain ⟨y, rfl⟩ := exists_later hbw
    clear hbw
    by_cases hlt : j < (splitS s 32).length
    · obtain ⟨p, hp⟩ : ∃ p, (splitS s 32)[j]? = some p := ⟨_, List.getElem?_eq_getElem hlt⟩
      have HP := Lib.hid hp
      clear hp
      rcases hor with ⟨rfl, rfl, rfl⟩ | ⟨hj0, hown⟩
      · have c0 := hC.out 0 p HP.out
        by_cases h2 : p.size < 2
        · have hfin := Lib.hid (plF_bad readsI HP.out (supI_short h2))
          have h2' : decide ((p.size : Int) < 2) = true := by simp; omega
          clear h2
          go_wp2_with fail
          go_ret2
          rw [hfin.out]
          exact SupsB.none_ (bw_trans HB1.out (by repeat (with_reducible first | exact hbD | exact Below.refl _ _ | refine bw_later ?_ _ | refine bw_alloc ?_ _ | refine bw_drew ?_ | refine bw_set ?_ (Nat.le_refl _) _ | refine bw_set ?_ ?_ _ | exact Nat.le_refl _ | exact later_size _ _ | refine Nat.le_trans ?_ (later_size _ _) | refine Nat.le_trans ?_ (size_alloc_le _ _) | refine Nat.le_trans ?_ (Nat.le_add_right _ _))))
        have h2' : decide ((p.size : Int) < 2) = false := by simp; omega
        have h20 : 0 < p.size := by omega
        have h21 : 1 ≤ p.size := by omega
        have hpz : p.size ≤ 1048576 := by have := splitS_each HP.out; omega
        have hxz : (p.extract 1 p.size).size ≤ 1048576 := by rw [ByteArray.size_extract]; omega
        cases hr : (rnF (p.extract 1 p.size) 58 2).2
        · have hfin := Lib.hid (plF_bad readsI HP.out (supI_no hr))
          have hrn := Lib.hid (fun w ht he hm => rnum_any (p.extract 1 p.size) 58 2 hxz (by omega) w ht he hm)
          rw [rn_no hr] at hrn
          clear hr h2
          go_wp2_with (go_at_call 52; refine Calls.mono (hrn.out _ (ht1.keep (by repeat (with_reducible first | exact hbD | exact Below.refl _ _ | refine bw_later ?_ _ | refine bw_alloc ?_ _ | refine bw_drew ?_ | refine bw_set ?_ (Nat.le_refl _) _ | refine bw_set ?_ ?_ _ | exact Nat.le_refl _ | exact later_size _ _ | refine Nat.le_trans ?_ (later_size _ _) | refine Nat.le_trans ?_ (size_alloc_le _ _) | refine Nat.le_trans ?_ (Nat.le_add_right _ _)))) (he1.keep (by repeat (with_reducible first | exact hbD | exact Below.refl _ _ | refine bw_later ?_ _ | refine bw_alloc ?_ _ | refine bw_drew ?_ | refine bw_set ?_ (Nat.le_refl _) _ | refine bw_set ?_ ?_ _ | exact Nat.le_refl _ | exact later_size _ _ | refine Nat.le_trans ?_ (later_size _ _) | refine Nat.le_trans ?_ (size_alloc_le _ _) | refine Nat.le_trans ?_ (Nat.le_add_right _ _)))) (hm1.keep (by repeat (with_reducible first | exact hbD | exact Below.refl _ _ | refine bw_later ?_ _ | refine bw_alloc ?_ _ | refine bw_drew ?_ | refine bw_set ?_ (Nat.le_refl _) _ | refine bw_set ?_ ?_ _ | exact Nat.le_refl _ | exact later_size _ _ | refine Nat.le_trans ?_ (later_size _ _) | refine Nat.le_trans ?_ (size_alloc_le _ _) | refine Nat.le_trans ?_ (Nat.le_add_right _ _))))) ?_; rintro _ w2 ⟨A, m, d, rfl, hO, hm2, hb2⟩; obtain ⟨x, rfl⟩ := exists_later hb2; clear hO hb2)
          go_ret2
          rw [hfin.out]
          exact SupsB.none_ (bw_trans HB1.out (by repeat (with_reducible first | exact hbD | exact Below.refl _ _ | refine bw_later ?_ _ | refine bw_alloc ?_ _ | refine bw_drew ?_ | refine bw_set ?_ (Nat.le_refl _) _ | refine bw_set ?_ ?_ _ | exact Nat.le_refl _ | exact later_size _ _ | refine Nat.le_trans ?_ (later_size _ _) | refine Nat.le_trans ?_ (size_alloc_le _ _) | refine Nat.le_trans ?_ (Nat.le_add_right _ _))))
        · obtain ⟨na, nb, hab⟩ := rn_two hr
          have hrn := Lib.hid (fun w ht he hm => rnum_any (p.extract 1 p.size) 58 2 hxz (by omega) w ht he hm)
          rw [hab] at hrn
          have hgot := Lib.hid (hG.out.step HP.out (supI_yes h2 hab))
          have e83 := byte83 h20
          generalize decide (p.data.toList[0]? = some 83) = st at e83 hgot
          clear hr hab h2
          go_wp2_with (go_at_call 52; refine Calls.mono (hrn.out _ (ht1.keep (by repeat (with_reducible first | exact hbD | exact Below.refl _ _ | refine bw_later ?_ _ | refine bw_alloc ?_ _ | refine bw_drew ?_ | refine bw_set ?_ (Nat.le_refl _) _ | refine bw_set ?_ ?_ _ | exact Nat.le_refl _ | exact later_size _ _ | refine Nat.le_trans ?_ (later_size _ _) | refine Nat.le_trans ?_ (size_alloc_le _ _) | refine Nat.le_trans ?_ (Nat.le_add_right _ _)))) (he1.keep (by repeat (with_reducible first | exact hbD | exact Below.refl _ _ | refine bw_later ?_ _ | refine bw_alloc ?_ _ | refine bw_drew ?_ | refine bw_set ?_ (Nat.le_refl _) _ | refine bw_set ?_ ?_ _ | exact Nat.le_refl _ | exact later_size _ _ | refine Nat.le_trans ?_ (later_size _ _) | refine Nat.le_trans ?_ (size_alloc_le _ _) | refine Nat.le_trans ?_ (Nat.le_add_right _ _)))) (hm1.keep (by repeat (with_reducible first | exact hbD | exact Below.refl _ _ | refine bw_later ?_ _ | refine bw_alloc ?_ _ | refine bw_drew ?_ | refine bw_set ?_ (Nat.le_refl _) _ | refine bw_set ?_ ?_ _ | exact Nat.le_refl _ | exact later_size _ _ | refine Nat.le_trans ?_ (later_size _ _) | refine Nat.le_trans ?_ (size_alloc_le _ _) | refine Nat.le_trans ?_ (Nat.le_add_right _ _))))) ?_; rintro _ w2 ⟨A, m, d, rfl, hO, hm2, hb2⟩; obtain rfl : 2 = m := hO.1; obtain ⟨gn, tn, cur, rfl, hlo, hhi, hgn, hsn, hcur⟩ := hO.2 (by omega); have q0 := hcur 0 na rfl; have q1 := hcur 1 nb rfl; have hbD : Below w1.heap.size w1 w2 := bw_trans (later_below _ _) hb2; have hcw : Cw w1 gn cur tn w2 := ⟨hbD, hgn⟩; clear hO hb2 hcur hgn)
          refine wp_region_C (Cw w1 gn cur tn) (by kernel_rfl) ?_
          replace hcw := hcw.drew
          replace hbD := bw_drew hbD
          generalize w2.drew = w3 at *
          ((refine step_readC (i := 0) (by kernel_rfl) (by kernel_rfl) rfl (by repeat (with_reducible first | assumption | refine Cw.later ?_ _ | refine Cw.alloc ?_ _ | refine Cw.drew ?_ | refine Cw.set ?_ ?_ ?_ _)) rfl (fun K hK => ?_); apply Exists.intro; refine ⟨fun wq hq => ?_, ?_⟩; focus (have hq0 := hq.cell 0; have hq1 := hq.cell 1; go_simp; (try go_bits); (try go_simp); (try rfl))); (go_simp; (try go_bits); refine hK _ ?_; clear hK K); (refine step_readC (i := 1) (by kernel_rfl) (by kernel_rfl) rfl (by repeat (with_reducible first | assumption | refine Cw.later ?_ _ | refine Cw.alloc ?_ _ | refine Cw.drew ?_ | refine Cw.set ?_ ?_ ?_ _)) rfl (fun K hK => ?_); apply Exists.intro; refine ⟨fun wq hq => ?_, ?_⟩; focus (have hq0 := hq.cell 0; have hq1 := hq.cell 1; go_simp; (try go_bits); (try go_simp); (try rfl))); (go_simp; (try go_bits); refine hK _ ?_; clear hK K); (refine step_readC (i := 2) (by kernel_rfl) (by kernel_rfl) rfl (by repeat (with_reducible first | assumption | refine Cw.later ?_ _ | refine Cw.alloc ?_ _ | refine Cw.drew ?_ | refine Cw.set ?_ ?_ ?_ _)) rfl (fun K hK => ?_); apply Exists.intro; refine ⟨fun wq hq => ?_, ?_⟩; focus (have hq0 := hq.cell 0; have hq1 := hq.cell 1; go_simp; (try go_bits); (try go_simp); (try rfl))); (go_simp; (try go_bits); refine hK _ ?_; clear hK K); (refine step_readC (i := 3) (by kernel_rfl) (by kernel_rfl) rfl (by repeat (with_reducible first | assumption | refine Cw.later ?_ _ | refine Cw.alloc ?_ _ | refine Cw.drew ?_ | refine Cw.set ?_ ?_ ?_ _)) rfl (fun K hK => ?_); apply Exists.intro; refine ⟨fun wq hq => ?_, ?_⟩; focus (have hq0 := hq.cell 0; have hq1 := hq.cell 1; go_simp; (try go_bits); (try go_simp); (try rfl))); (go_simp; (try go_bits); refine hK _ ?_; clear hK K); (refine step_readC (i := 4) (by kernel_rfl) (by kernel_rfl) rfl (by repeat (with_reducible first | assumption | refine Cw.later ?_ _ | refine Cw.alloc ?_ _ | refine Cw.drew ?_ | refine Cw.set ?_ ?_ ?_ _)) rfl (fun K hK => ?_); apply Exists.intro; refine ⟨fun wq hq => ?_, ?_⟩; focus (have hq0 := hq.cell 0; have hq1 := hq.cell 1; go_simp; (try go_bits); (try go_simp); (try rfl))); (go_simp; (try go_bits); refine hK _ ?_; clear hK K); (refine step_readC (i := 5) (by kernel_rfl) (by kernel_rfl) rfl (by repeat (with_reducible first | assumption | refine Cw.later ?_ _ | refine Cw.alloc ?_ _ | refine Cw.drew ?_ | refine Cw.set ?_ ?_ ?_ _)) rfl (fun K hK => ?_); apply Exists.intro; refine ⟨fun wq hq => ?_, ?_⟩; focus (have hq0 := hq.cell 0; have hq1 := hq.cell 1; go_simp; (try go_bits); (try go_simp); (try rfl))); (go_simp; (try go_bits); refine hK _ ?_; clear hK K); (refine step_readC (i := 6) (by kernel_rfl) (by kernel_rfl) rfl (by repeat (with_reducible first | assumption | refine Cw.later ?_ _ | refine Cw.alloc ?_ _ | refine Cw.drew ?_ | refine Cw.set ?_ ?_ ?_ _)) rfl (fun K hK => ?_); apply Exists.intro; refine ⟨fun wq hq => ?_, ?_⟩; focus (have hq0 := hq.cell 0; have hq1 := hq.cell 1; go_simp; (try go_bits); (try go_simp); (try rfl))); (go_simp; (try go_bits); refine hK _ ?_; clear hK K); (refine step_readC (i := 7) (by kernel_rfl) (by kernel_rfl) rfl (by repeat (with_reducible first | assumption | refine Cw.later ?_ _ | refine Cw.alloc ?_ _ | refine Cw.drew ?_ | refine Cw.set ?_ ?_ ?_ _)) rfl (fun K hK => ?_); apply Exists.intro; refine ⟨fun wq hq => ?_, ?_⟩; focus (have hq0 := hq.cell 0; have hq1 := hq.cell 1; go_simp; (try go_bits); (try go_simp); (try rfl))); (go_simp; (try go_bits); refine hK _ ?_; clear hK K); (refine step_readC (i := 8) (by kernel_rfl) (by kernel_rfl) rfl (by repeat (with_reducible first | assumption | refine Cw.later ?_ _ | refine Cw.alloc ?_ _ | refine Cw.drew ?_ | refine Cw.set ?_ ?_ ?_ _)) rfl (fun K hK => ?_); apply Exists.intro; refine ⟨fun wq hq => ?_, ?_⟩; focus (have hq0 := hq.cell 0; have hq1 := hq.cell 1; go_simp; (try go_bits); (try go_simp); (try rfl))); (go_simp; (try go_bits); refine hK _ ?_; clear hK K); (refine step_readC (i := 9) (by kernel_rfl) (by kernel_rfl) rfl (by repeat (with_reducible first | assumption | refine Cw.later ?_ _ | refine Cw.alloc ?_ _ | refine Cw.drew ?_ | refine Cw.set ?_ ?_ ?_ _)) rfl (fun K hK => ?_); apply Exists.intro; refine ⟨fun wq hq => ?_, ?_⟩; focus (have hq0 := hq.cell 0; have hq1 := hq.cell 1; go_simp; (try go_bits); (try go_simp); (try rfl))); (go_simp; (try go_bits); refine hK _ ?_; clear hK K); (refine step_readC (i := 10) (by kernel_rfl) (by kernel_rfl) rfl (by repeat (with_reducible first | assumption | refine Cw.later ?_ _ | refine Cw.alloc ?_ _ | refine Cw.drew ?_ | refine Cw.set ?_ ?_ ?_ _)) rfl (fun K hK => ?_); apply Exists.intro; refine ⟨fun wq hq => ?_, ?_⟩; focus (have hq0 := hq.cell 0; have hq1 := hq.cell 1; go_simp; (try go_bits); (try go_simp); (try rfl))); (go_simp; (try go_bits); refine hK _ ?_; clear hK K))
          (refine step_one (i := 11) (by kernel_rfl) rfl (by repeat (with_reducible first | assumption | refine Cw.later ?_ _ | refine Cw.alloc ?_ _ | refine Cw.drew ?_ | refine Cw.set ?_ ?_ ?_ _)) (fun K hK => ?_); go_wp2; (try refine hK _ _ ?_); (try clear hK K))
          (refine step_one (i := 12) (by kernel_rfl) rfl (by repeat (with_reducible first | assumption | refine Cw.later ?_ _ | refine Cw.alloc ?_ _ | refine Cw.drew ?_ | refine Cw.set ?_ ?_ ?_ _)) (fun K hK => ?_); go_wp2_with ((at_builtin; refine push_first_keep rfl _ _ _ rfl i0 _ 3 24 Tryd.underlying38 Hi.out Hz0.out Hz1.out Hz2.out rfl _ rfl (w0 := w1) (by repeat (with_reducible first | exact hbD | exact Below.refl _ _ | refine bw_later ?_ _ | refine bw_alloc ?_ _ | refine bw_drew ?_ | refine bw_set ?_ (Nat.le_refl _) _ | refine bw_set ?_ ?_ _ | exact Nat.le_refl _ | exact later_size _ _ | refine Nat.le_trans ?_ (later_size _ _) | refine Nat.le_trans ?_ (size_alloc_le _ _) | refine Nat.le_trans ?_ (Nat.le_add_right _ _))) _ (by simp) rfl rfl (by omega) ?_; intro v1 y1 hown1 hk1; have hcw1 : Cw w1 gn cur tn (later w1 y1) := ⟨later_below _ _, (hk1 _ (by first | exact hcw.drew.lt | exact hcw.lt)).trans (by first | exact hcw.drew.blk | exact hcw.blk)⟩)); (try refine hK _ _ ?_); (try clear hK K))
          (refine step_one (i := 13) (by kernel_rfl) rfl (by repeat (with_reducible first | assumption | refine Cw.later ?_ _ | refine Cw.alloc ?_ _ | refine Cw.drew ?_ | refine Cw.set ?_ ?_ ?_ _)) (fun K hK => ?_); go_wp2; (try refine hK _ _ ?_); (try clear hK K))
          (refine step_end (by kernel_rfl) (by repeat (with_reducible first | assumption | refine Cw.later ?_ _ | refine Cw.alloc ?_ _ | refine Cw.drew ?_ | refine Cw.set ?_ ?_ ?_ _)) ?_)
          go_wp2
          go_roundw
          case rel => exact ⟨0 + 1, _, (by repeat (with_reducible first | exact hbD | exact Below.refl _ _ | refine bw_later ?_ _ | refine bw_alloc ?_ _ | refine bw_drew ?_ | refine bw_set ?_ (Nat.le_refl _) _ | refine bw_set ?_ ?_ _ | exact Nat.le_refl _ | exact later_size _ _ | refine Nat.le_trans ?_ (later_size _ _) | refine Nat.le_trans ?_ (size_alloc_le _ _) | refine Nat.le_trans ?_ (Nat.le_add_right _ _))), by omega, by go_num, by omega, .inr ⟨by omega, by rw [List.flatMap_append]; simpa [Sup.cs] using hown1⟩, hgot⟩
          case measure => simp [intOf]; omega
      · obtain ⟨go, co, rfl, hgo1, hgo2, hgo3⟩ := own_form hown hj0
        have c0 := hC.out j p HP.out
        by_cases h2 : p.size < 2
        · have hfin := Lib.hid (plF_bad readsI HP.out (supI_short h2))
          have h2' : decide ((p.size : Int) < 2) = true := by simp; omega
          clear h2
          go_wp2_with fail
          go_ret2
          rw [hfin.out]
          exact SupsB.none_ (bw_trans HB1.out (by repeat (with_reducible first | exact hbD | exact Below.refl _ _ | refine bw_later ?_ _ | refine bw_alloc ?_ _ | refine bw_drew ?_ | refine bw_set ?_ (Nat.le_refl _) _ | refine bw_set ?_ ?_ _ | exact Nat.le_refl _ | exact later_size _ _ | refine Nat.le_trans ?_ (later_size _ _) | refine Nat.le_trans ?_ (size_alloc_le _ _) | refine Nat.le_trans ?_ (Nat.le_add_right _ _))))
        have h2' : decide ((p.size : Int) < 2) = false := by simp; omega
        have h20 : 0 < p.size := by omega
        have h21 : 1 ≤ p.size := by omega
        have hpz : p.size ≤ 1048576 := by have := splitS_each HP.out; omega
        have hxz : (p.extract 1 p.size).size ≤ 1048576 := by rw [ByteArray.size_extract]; omega
        by_cases h8 : j = 8
        · subst h8
          have hfin := Lib.hid (plF_many (s := s) (by omega))
          go_wp2_with fail
          go_ret2
          rw [hfin.out]
          exact SupsB.none_ (bw_trans HB1.out (by repeat (with_reducible first | exact hbD | exact Below.refl _ _ | refine bw_later ?_ _ | refine bw_alloc ?_ _ | refine bw_drew ?_ | refine bw_set ?_ (Nat.le_refl _) _ | refine bw_set ?_ ?_ _ | exact Nat.le_refl _ | exact later_size _ _ | refine Nat.le_trans ?_ (later_size _ _) | refine Nat.le_trans ?_ (size_alloc_le _ _) | refine Nat.le_trans ?_ (Nat.le_add_right _ _))))
        have e8 : ((j : Int) == 8) = false := by rw [beq_eq_false_iff_ne]; omega
        cases hr : (rnF (p.extract 1 p.size) 58 2).2
        · have hfin := Lib.hid (plF_bad readsI HP.out (supI_no hr))
          have hrn := Lib.hid (fun w ht he hm => rnum_any (p.extract 1 p.size) 58 2 hxz (by omega) w ht he hm)
          rw [rn_no hr] at hrn
          clear hr h2
          go_wp2_with (go_at_call 52; refine Calls.mono (hrn.out _ (ht1.keep (by repeat (with_reducible first | exact hbD | exact Below.refl _ _ | refine bw_later ?_ _ | refine bw_alloc ?_ _ | refine bw_drew ?_ | refine bw_set ?_ (Nat.le_refl _) _ | refine bw_set ?_ ?_ _ | exact Nat.le_refl _ | exact later_size _ _ | refine Nat.le_trans ?_ (later_size _ _) | refine Nat.le_trans ?_ (size_alloc_le _ _) | refine Nat.le_trans ?_ (Nat.le_add_right _ _)))) (he1.keep (by repeat (with_reducible first | exact hbD | exact Below.refl _ _ | refine bw_later ?_ _ | refine bw_alloc ?_ _ | refine bw_drew ?_ | refine bw_set ?_ (Nat.le_refl _) _ | refine bw_set ?_ ?_ _ | exact Nat.le_refl _ | exact later_size _ _ | refine Nat.le_trans ?_ (later_size _ _) | refine Nat.le_trans ?_ (size_alloc_le _ _) | refine Nat.le_trans ?_ (Nat.le_add_right _ _)))) (hm1.keep (by repeat (with_reducible first | exact hbD | exact Below.refl _ _ | refine bw_later ?_ _ | refine bw_alloc ?_ _ | refine bw_drew ?_ | refine bw_set ?_ (Nat.le_refl _) _ | refine bw_set ?_ ?_ _ | exact Nat.le_refl _ | exact later_size _ _ | refine Nat.le_trans ?_ (later_size _ _) | refine Nat.le_trans ?_ (size_alloc_le _ _) | refine Nat.le_trans ?_ (Nat.le_add_right _ _))))) ?_; rintro _ w2 ⟨A, m, d, rfl, hO, hm2, hb2⟩; obtain ⟨x, rfl⟩ := exists_later hb2; clear hO hb2)
          go_ret2
          rw [hfin.out]
          exact SupsB.none_ (bw_trans HB1.out (by repeat (with_reducible first | exact hbD | exact Below.refl _ _ | refine bw_later ?_ _ | refine bw_alloc ?_ _ | refine bw_drew ?_ | refine bw_set ?_ (Nat.le_refl _) _ | refine bw_set ?_ ?_ _ | exact Nat.le_refl _ | exact later_size _ _ | refine Nat.le_trans ?_ (later_size _ _) | refine Nat.le_trans ?_ (size_alloc_le _ _) | refine Nat.le_trans ?_ (Nat.le_add_right _ _))))
        · obtain ⟨na, nb, hab⟩ := rn_two hr
          have hrn := Lib.hid (fun w ht he hm => rnum_any (p.extract 1 p.size) 58 2 hxz (by omega) w ht he hm)
          rw [hab] at hrn
          have hgot := Lib.hid (hG.out.step HP.out (supI_yes h2 hab))
          have e83 := byte83 h20
          generalize decide (p.data.toList[0]? = some 83) = st at e83 hgot
          clear hr hab h2
          go_wp2_with (go_at_call 52; refine Calls.mono (hrn.out _ (ht1.keep (by repeat (with_reducible first | exact hbD | exact Below.refl _ _ | refine bw_later ?_ _ | refine bw_alloc ?_ _ | refine bw_drew ?_ | refine bw_set ?_ (Nat.le_refl _) _ | refine bw_set ?_ ?_ _ | exact Nat.le_refl _ | exact later_size _ _ | refine Nat.le_trans ?_ (later_size _ _) | refine Nat.le_trans ?_ (size_alloc_le _ _) | refine Nat.le_trans ?_ (Nat.le_add_right _ _)))) (he1.keep (by repeat (with_reducible first | exact hbD | exact Below.refl _ _ | refine bw_later ?_ _ | refine bw_alloc ?_ _ | refine bw_drew ?_ | refine bw_set ?_ (Nat.le_refl _) _ | refine bw_set ?_ ?_ _ | exact Nat.le_refl _ | exact later_size _ _ | refine Nat.le_trans ?_ (later_size _ _) | refine Nat.le_trans ?_ (size_alloc_le _ _) | refine Nat.le_trans ?_ (Nat.le_add_right _ _)))) (hm1.keep (by repeat (with_reducible first | exact hbD | exact Below.refl _ _ | refine bw_later ?_ _ | refine bw_alloc ?_ _ | refine bw_drew ?_ | refine bw_set ?_ (Nat.le_refl _) _ | refine bw_set ?_ ?_ _ | exact Nat.le_refl _ | exact later_size _ _ | refine Nat.le_trans ?_ (later_size _ _) | refine Nat.le_trans ?_ (size_alloc_le _ _) | refine Nat.le_trans ?_ (Nat.le_add_right _ _))))) ?_; rintro _ w2 ⟨A, m, d, rfl, hO, hm2, hb2⟩; obtain rfl : 2 = m := hO.1; obtain ⟨gn, tn, cur, rfl, hlo, hhi, hgn, hsn, hcur⟩ := hO.2 (by omega); have q0 := hcur 0 na rfl; have q1 := hcur 1 nb rfl; have hbD : Below w1.heap.size w1 w2 := bw_trans (later_below _ _) hb2; have hcw : Cw w1 gn cur tn w2 := ⟨hbD, hgn⟩; have hown2 := own_kept hown hb2; clear hO hb2 hcur hgn)
          refine wp_region_C (Cw w1 gn cur tn) (by kernel_rfl) ?_
          replace hcw := hcw.drew
          replace hbD := bw_drew hbD
          replace hown2 := own_drew hown2
          generalize w2.drew = w3 at *
          ((refine step_readC (i := 0) (by kernel_rfl) (by kernel_rfl) rfl (by repeat (with_reducible first | assumption | refine Cw.later ?_ _ | refine Cw.alloc ?_ _ | refine Cw.drew ?_ | refine Cw.set ?_ ?_ ?_ _)) rfl (fun K hK => ?_); apply Exists.intro; refine ⟨fun wq hq => ?_, ?_⟩; focus (have hq0 := hq.cell 0; have hq1 := hq.cell 1; go_simp; (try go_bits); (try go_simp); (try rfl))); (go_simp; (try go_bits); refine hK _ ?_; clear hK K); (refine step_readC (i := 1) (by kernel_rfl) (by kernel_rfl) rfl (by repeat (with_reducible first | assumption | refine Cw.later ?_ _ | refine Cw.alloc ?_ _ | refine Cw.drew ?_ | refine Cw.set ?_ ?_ ?_ _)) rfl (fun K hK => ?_); apply Exists.intro; refine ⟨fun wq hq => ?_, ?_⟩; focus (have hq0 := hq.cell 0; have hq1 := hq.cell 1; go_simp; (try go_bits); (try go_simp); (try rfl))); (go_simp; (try go_bits); refine hK _ ?_; clear hK K); (refine step_readC (i := 2) (by kernel_rfl) (by kernel_rfl) rfl (by repeat (with_reducible first | assumption | refine Cw.later ?_ _ | refine Cw.alloc ?_ _ | refine Cw.drew ?_ | refine Cw.set ?_ ?_ ?_ _)) rfl (fun K hK => ?_); apply Exists.intro; refine ⟨fun wq hq => ?_, ?_⟩; focus (have hq0 := hq.cell 0; have hq1 := hq.cell 1; go_simp; (try go_bits); (try go_simp); (try rfl))); (go_simp; (try go_bits); refine hK _ ?_; clear hK K); (refine step_readC (i := 3) (by kernel_rfl) (by kernel_rfl) rfl (by repeat (with_reducible first | assumption | refine Cw.later ?_ _ | refine Cw.alloc ?_ _ | refine Cw.drew ?_ | refine Cw.set ?_ ?_ ?_ _)) rfl (fun K hK => ?_); apply Exists.intro; refine ⟨fun wq hq => ?_, ?_⟩; focus (have hq0 := hq.cell 0; have hq1 := hq.cell 1; go_simp; (try go_bits); (try go_simp); (try rfl))); (go_simp; (try go_bits); refine hK _ ?_; clear hK K); (refine step_readC (i := 4) (by kernel_rfl) (by kernel_rfl) rfl (by repeat (with_reducible first | assumption | refine Cw.later ?_ _ | refine Cw.alloc ?_ _ | refine Cw.drew ?_ | refine Cw.set ?_ ?_ ?_ _)) rfl (fun K hK => ?_); apply Exists.intro; refine ⟨fun wq hq => ?_, ?_⟩; focus (have hq0 := hq.cell 0; have hq1 := hq.cell 1; go_simp; (try go_bits); (try go_simp); (try rfl))); (go_simp; (try go_bits); refine hK _ ?_; clear hK K); (refine step_readC (i := 5) (by kernel_rfl) (by kernel_rfl) rfl (by repeat (with_reducible first | assumption | refine Cw.later ?_ _ | refine Cw.alloc ?_ _ | refine Cw.drew ?_ | refine Cw.set ?_ ?_ ?_ _)) rfl (fun K hK => ?_); apply Exists.intro; refine ⟨fun wq hq => ?_, ?_⟩; focus (have hq0 := hq.cell 0; have hq1 := hq.cell 1; go_simp; (try go_bits); (try go_simp); (try rfl))); (go_simp; (try go_bits); refine hK _ ?_; clear hK K); (refine step_readC (i := 6) (by kernel_rfl) (by kernel_rfl) rfl (by repeat (with_reducible first | assumption | refine Cw.later ?_ _ | refine Cw.alloc ?_ _ | refine Cw.drew ?_ | refine Cw.set ?_ ?_ ?_ _)) rfl (fun K hK => ?_); apply Exists.intro; refine ⟨fun wq hq => ?_, ?_⟩; focus (have hq0 := hq.cell 0; have hq1 := hq.cell 1; go_simp; (try go_bits); (try go_simp); (try rfl))); (go_simp; (try go_bits); refine hK _ ?_; clear hK K); (refine step_readC (i := 7) (by kernel_rfl) (by kernel_rfl) rfl (by repeat (with_reducible first | assumption | refine Cw.later ?_ _ | refine Cw.alloc ?_ _ | refine Cw.drew ?_ | refine Cw.set ?_ ?_ ?_ _)) rfl (fun K hK => ?_); apply Exists.intro; refine ⟨fun wq hq => ?_, ?_⟩; focus (have hq0 := hq.cell 0; have hq1 := hq.cell 1; go_simp; (try go_bits); (try go_simp); (try rfl))); (go_simp; (try go_bits); refine hK _ ?_; clear hK K); (refine step_readC (i := 8) (by kernel_rfl) (by kernel_rfl) rfl (by repeat (with_reducible first | assumption | refine Cw.later ?_ _ | refine Cw.alloc ?_ _ | refine Cw.drew ?_ | refine Cw.set ?_ ?_ ?_ _)) rfl (fun K hK => ?_); apply Exists.intro; refine ⟨fun wq hq => ?_, ?_⟩; focus (have hq0 := hq.cell 0; have hq1 := hq.cell 1; go_simp; (try go_bits); (try go_simp); (try rfl))); (go_simp; (try go_bits); refine hK _ ?_; clear hK K); (refine step_readC (i := 9) (by kernel_rfl) (by kernel_rfl) rfl (by repeat (with_reducible first | assumption | refine Cw.later ?_ _ | refine Cw.alloc ?_ _ | refine Cw.drew ?_ | refine Cw.set ?_ ?_ ?_ _)) rfl (fun K hK => ?_); apply Exists.intro; refine ⟨fun wq hq => ?_, ?_⟩; focus (have hq0 := hq.cell 0; have hq1 := hq.cell 1; go_simp; (try go_bits); (try go_simp); (try rfl))); (go_simp; (try go_bits); refine hK _ ?_; clear hK K); (refine step_readC (i := 10) (by kernel_rfl) (by kernel_rfl) rfl (by repeat (with_reducible first | assumption | refine Cw.later ?_ _ | refine Cw.alloc ?_ _ | refine Cw.drew ?_ | refine Cw.set ?_ ?_ ?_ _)) rfl (fun K hK => ?_); apply Exists.intro; refine ⟨fun wq hq => ?_, ?_⟩; focus (have hq0 := hq.cell 0; have hq1 := hq.cell 1; go_simp; (try go_bits); (try go_simp); (try rfl))); (go_simp; (try go_bits); refine hK _ ?_; clear hK K))
          (refine step_one (i := 11) (by kernel_rfl) rfl (by repeat (with_reducible first | assumption | refine Cw.later ?_ _ | refine Cw.alloc ?_ _ | refine Cw.drew ?_ | refine Cw.set ?_ ?_ ?_ _)) (fun K hK => ?_); go_wp2; (try refine hK _ _ ?_); (try clear hK K))
          (refine step_one (i := 12) (by kernel_rfl) rfl (by repeat (with_reducible first | assumption | refine Cw.later ?_ _ | refine Cw.alloc ?_ _ | refine Cw.drew ?_ | refine Cw.set ?_ ?_ ?_ _)) (fun K hK => ?_); go_wp2_with ((at_builtin; refine push_keep rfl _ _ _ rfl i0 _ 3 24 Tryd.underlying38 Hi.out Hz0.out Hz1.out Hz2.out rfl (by decide) _ _ _ rfl (by first | exact own_drew hown2 | exact hown2) (w0 := w1) (by repeat (with_reducible first | exact hbD | exact Below.refl _ _ | refine bw_later ?_ _ | refine bw_alloc ?_ _ | refine bw_drew ?_ | refine bw_set ?_ (Nat.le_refl _) _ | refine bw_set ?_ ?_ _ | exact Nat.le_refl _ | exact later_size _ _ | refine Nat.le_trans ?_ (later_size _ _) | refine Nat.le_trans ?_ (size_alloc_le _ _) | refine Nat.le_trans ?_ (Nat.le_add_right _ _))) _ (by simp) rfl rfl (by simp [Value.oneCell']) (by omega) (by omega) ?_; intro v1 y1 hown1 hk1; have hcw1 : Cw w1 gn cur tn (later w1 y1) := ⟨later_below _ _, (hk1 _ (by first | exact hcw.drew.lt | exact hcw.lt) (own_ne hown hlo)).trans (by first | exact hcw.drew.blk | exact hcw.blk)⟩)); (try refine hK _ _ ?_); (try clear hK K))
          (refine step_one (i := 13) (by kernel_rfl) rfl (by repeat (with_reducible first | assumption | refine Cw.later ?_ _ | refine Cw.alloc ?_ _ | refine Cw.drew ?_ | refine Cw.set ?_ ?_ ?_ _)) (fun K hK => ?_); go_wp2; (try refine hK _ _ ?_); (try clear hK K))
          (refine step_end (by kernel_rfl) (by repeat (with_reducible first | assumption | refine Cw.later ?_ _ | refine Cw.alloc ?_ _ | refine Cw.drew ?_ | refine Cw.set ?_ ?_ ?_ _)) ?_)
          go_wp2
          go_roundw
          case rel => exact ⟨j + 1, _, (by repeat (with_reducible first | exact hbD | exact Below.refl _ _ | refine bw_later ?_ _ | refine bw_alloc ?_ _ | refine bw_drew ?_ | refine bw_set ?_ (Nat.le_refl _) _ | refine bw_set ?_ ?_ _ | exact Nat.le_refl _ | exact later_size _ _ | refine Nat.le_trans ?_ (later_size _ _) | refine Nat.le_trans ?_ (size_alloc_le _ _) | refine Nat.le_trans ?_ (Nat.le_add_right _ _))), by omega, by go_num, by omega, .inr ⟨by omega, by rw [List.flatMap_append]; simpa [Sup.cs] using hown1⟩, hgot⟩
          case measure => simp [intOf]; omega
    · obtain rfl : j = (splitS s 32).length := by omega
      rcases hor with ⟨_, h0, _⟩ | ⟨hj0, hown⟩
      · omega
      have hylen := hG.out.len (Nat.le_refl _)
      have hall := Lib.hid (hG.out.all rfl)
      obtain ⟨go, co, rfl, hgo1, hgo2, hgo3⟩ := own_form hown hj0
      have hs := sup_of_own hown hylen hj0
      generalize hn : (splitS s 32).length = n at *
      have hn' : n ≤ 1048576 := by omega
      cases h0 : okLine ys
      · have hfin := Lib.hid (plF_other readsI hall.out (by rw [h0]; simp))
        go_wp2_with (go_at_call 49; refine (impl_IsLine_any go 0 n co ys _ (by first | exact hs | exact hs.later _ | exact hs.alloc _ | exact (hs.alloc _).later _ | exact (hs.later _).alloc _ | exact ((hs.later _).alloc _).later _ | exact ((hs.alloc _).later _).alloc _ | exact (hs.alloc _).alloc _ | exact ((hs.alloc _).alloc _).later _ | exact (((hs.alloc _).later _).alloc _).later _) hn').on ?_; intro xq)
        go_ret2
        rw [hfin.out]
        exact SupsB.none_ (bw_trans HB1.out (by repeat (with_reducible first | exact hbD | exact Below.refl _ _ | refine bw_later ?_ _ | refine bw_alloc ?_ _ | refine bw_drew ?_ | refine bw_set ?_ (Nat.le_refl _) _ | refine bw_set ?_ ?_ _ | exact Nat.le_refl _ | exact later_size _ _ | refine Nat.le_trans ?_ (later_size _ _) | refine Nat.le_trans ?_ (size_alloc_le _ _) | refine Nat.le_trans ?_ (Nat.le_add_right _ _))))
      · cases hq : ((textOf ys).toList == s.toList)
        · have hfin := Lib.hid (plF_other readsI hall.out (by rw [str_eq] at hq; simp at hq; exact fun h => hq h.2))
          go_wp2_with (first | (go_at_call 49; refine (impl_IsLine_any go 0 n co ys _ (by first | exact hs | exact hs.later _ | exact hs.alloc _ | exact (hs.alloc _).later _ | exact (hs.later _).alloc _ | exact ((hs.later _).alloc _).later _ | exact ((hs.alloc _).later _).alloc _ | exact (hs.alloc _).alloc _ | exact ((hs.alloc _).alloc _).later _ | exact (((hs.alloc _).later _).alloc _).later _) hn').on ?_; intro xq) | (go_at_call 50; refine (lineText_any go 0 n co ys _ (by first | exact hs | exact hs.later _ | exact hs.alloc _ | exact (hs.alloc _).later _ | exact (hs.later _).alloc _ | exact ((hs.later _).alloc _).later _ | exact ((hs.alloc _).later _).alloc _ | exact (hs.alloc _).alloc _ | exact ((hs.alloc _).alloc _).later _ | exact (((hs.alloc _).later _).alloc _).later _) (line_ok h0) (ht1.keep (by repeat (with_reducible first | exact hbD | exact Below.refl _ _ | refine bw_later ?_ _ | refine bw_alloc ?_ _ | refine bw_drew ?_ | refine bw_set ?_ (Nat.le_refl _) _ | refine bw_set ?_ ?_ _ | exact Nat.le_refl _ | exact later_size _ _ | refine Nat.le_trans ?_ (later_size _ _) | refine Nat.le_trans ?_ (size_alloc_le _ _) | refine Nat.le_trans ?_ (Nat.le_add_right _ _))))).on ?_; intro xq))
          go_ret2
          rw [hfin.out]
          exact SupsB.none_ (bw_trans HB1.out (by repeat (with_reducible first | exact hbD | exact Below.refl _ _ | refine bw_later ?_ _ | refine bw_alloc ?_ _ | refine bw_drew ?_ | refine bw_set ?_ (Nat.le_refl _) _ | refine bw_set ?_ ?_ _ | exact Nat.le_refl _ | exact later_size _ _ | refine Nat.le_trans ?_ (later_size _ _) | refine Nat.le_trans ?_ (size_alloc_le _ _) | refine Nat.le_trans ?_ (Nat.le_add_right _ _))))
        · have hfin := Lib.hid (plF_some (s := s) h0 (by rw [str_eq] at hq; simpa using hq))
          go_wp2_with (first | (go_at_call 49; refine (impl_IsLine_any go 0 n co ys _ (by first | exact hs | exact hs.later _ | exact hs.alloc _ | exact (hs.alloc _).later _ | exact (hs.later _).alloc _ | exact ((hs.later _).alloc _).later _ | exact ((hs.alloc _).later _).alloc _ | exact (hs.alloc _).alloc _ | exact ((hs.alloc _).alloc _).later _ | exact (((hs.alloc _).later _).alloc _).later _) hn').on ?_; intro xq) | (go_at_call 50; refine (lineText_any go 0 n co ys _ (by first | exact hs | exact hs.later _ | exact hs.alloc _ | exact (hs.alloc _).later _ | exact (hs.later _).alloc _ | exact ((hs.later _).alloc _).later _ | exact ((hs.alloc _).later _).alloc _ | exact (hs.alloc _).alloc _ | exact ((hs.alloc _).alloc _).later _ | exact (((hs.alloc _).later _).alloc _).later _) (line_ok h0) (ht1.keep (by repeat (with_reducible first | exact hbD | exact Below.refl _ _ | refine bw_later ?_ _ | refine bw_alloc ?_ _ | refine bw_drew ?_ | refine bw_set ?_ (Nat.le_refl _) _ | refine bw_set ?_ ?_ _ | exact Nat.le_refl _ | exact later_size _ _ | refine Nat.le_trans ?_ (later_size _ _) | refine Nat.le_trans ?_ (size_alloc_le _ _) | refine Nat.le_trans ?_ (Nat.le_add_right _ _))))).on ?_; intro xq))
          go_ret2
          rw [hfin.out]
          exact SupsB.some_ (own_lower (own_later (own_later hown _) _) HB1.out.size) hylen (by omega) (bw_trans HB1.out (by repeat (with_reducible first | exact hbD | exact Below.refl _ _ | refine bw_later ?_ _ | refine bw_alloc ?_ _ | refine bw_drew ?_ | refine bw_set ?_ (Nat.le_refl _) _ | refine bw_set ?_ ?_ _ | exact Nat.le_refl _ | exact later_size _ _ | refine Nat.le_trans ?_ (later_size _ _) | refine Nat.le_trans ?_ (size_alloc_le _ _) | refine Nat.le_trans ?_ (Nat.le_add_right _ _))))
end Go.Proofs.YteakffedlojcmaaDoor
