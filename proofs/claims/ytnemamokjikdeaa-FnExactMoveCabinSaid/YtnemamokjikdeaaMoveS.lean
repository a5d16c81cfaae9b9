/- A cabin gets another state: the reference, the law. -/
import Derived.Test.YtnemamokjikdeaaMoveI
namespace Go.Proofs.Ytnemamokjikdeaa
open Go Go.RowKit
def MInv (xs : List R5) (z st : Int) (k : Nat) (ys : List R5) : Prop :=
  (ys = xs ∧ ∀ j, j < k → ∀ r, xs[j]? = some r → ((r.a == z) && mayB r.d st) = false) ∨ (moveF xs z st = ([], false) ∧ ∀ j, k ≤ j → ∀ r, ys[j]? = some r → (r.a == z) = false)
section
variable {xs ys : List R5} {z st : Int} {k : Nat} {r : R5}
theorem minv_no (h : MInv xs z st k ys) (hr : ys[k]? = some r) (hp : ((r.a == z) && mayB r.d st) = false) : MInv xs z st (k + 1) ys := by
  rcases h with ⟨rfl, h⟩ | ⟨h1, h2⟩
  · refine .inl ⟨rfl, fun j hj q hq => ?_⟩
    rcases Nat.lt_or_ge j k with h' | h'
    · exact h j h' q hq
    · obtain rfl : j = k := by omega
      rw [hr] at hq
      cases hq
      exact hp
  · exact .inr ⟨h1, fun j hj => h2 j (by omega)⟩
theorem minv_hit (h : MInv xs z st k ys) (hr : ys[k]? = some r) (hp : (r.a == z) = true) : ys = xs := by
  rcases h with ⟨rfl, _⟩ | ⟨_, h2⟩
  · rfl
  · rw [h2 k (Nat.le_refl _) r hr] at hp
    cases hp
theorem ix_only (ho : okList isCabin 12 xs = true) (hr : xs[k]? = some r) (hp : (r.a == z) = true) : ixF xs z = some k := by
  obtain ⟨hg, -⟩ := okList_t ho rfl
  refine ix_some hr hp fun j hj q hq => ?_
  have := good_up' hg hj hq hr
  have e : r.a = z := by simpa using hp
  simp
  omega
theorem move_hit (ho : okList isCabin 12 xs = true) (hr : xs[k]? = some r) (hp : (r.a == z) = true) : moveF xs z st = moveAt xs st k := by
  simp [moveF, ho, ix_only ho hr hp]
theorem minv_after (ho : okList isCabin 12 xs = true) (hr : xs[k]? = some r) (hp : (r.a == z) = true) (_hm : mayB r.d st = true) (hf : okList isCabin 12 (xs.set k (moved r st)) = false) : MInv xs z st (k + 1) (xs.set k (moved r st)) := by
  refine .inr ⟨by rw [move_hit ho hr hp]; simp [moveAt, hr, hf], fun j hj q hq => ?_⟩
  rw [List.getElem?_set_ne (by omega)] at hq
  obtain ⟨hg, -⟩ := okList_t ho rfl
  have := good_up' hg (show k < j by omega) hr hq
  have e : r.a = z := by simpa using hp
  simp
  omega
theorem minv_end (ho : okList isCabin 12 xs = true) (h : MInv xs z st xs.length ys) : moveF xs z st = ([], false) := by
  rcases h with ⟨rfl, h⟩ | ⟨h1, _⟩
  · cases hk : ixF ys z with
    | none => simp [moveF, hk]
    | some k =>
      obtain ⟨r, hr, hp⟩ := ix_at hk
      have := h k (List.getElem?_eq_some_iff.1 hr).1 r hr
      rw [hp, Bool.true_and] at this
      simp [moveF, ho, hk, moveAt, hr, this]
  · exact h1
end
theorem at_good {P : Program} {f : FuncId} {args : Array Value} {W : World} {R : Ending → World → Prop} {g2 n : Nat} {ys : List R5} {v : Value} (hq : OR5 W g2 (g2 + 1) (some ⟨g2, 0, none⟩) n ys) (hc : ∀ w, SR5 w g2 0 n ys → Gv P f args w v) (h0n : 0 < n) (k : ∀ x : Lat W, OR5 (later W x) g2 (g2 + 1) (some ⟨g2, 0, none⟩) n ys → R (.returned v) (later W x)) : Calls P f args W R :=
  (hc W (hq.sr h0n)).on fun x => k x (hq.below2 (later_below W x))
theorem at_good0 {P : Program} {f : FuncId} {args : Array Value} {W0 : World} {R : Ending → World → Prop} {g2 n gb k : Nat} {ys : List R5} {v u3 : Value} {ra rb rc rd re : Int} {q : R5} (h : OR5 W0 g2 (g2 + 1) (some ⟨g2, 0, none⟩) n ys) (hne : g2 ≠ gb) (hq : ys[k]? = some q)
    (hc : ∀ w, SR5 w g2 0 n (ys.set k ⟨ra, rb, rc, rd, re⟩) → Gv P f args w v) (h0n : 0 < n)
    (kk : ∀ x : Lat ((((((W0.setCell ⟨gb, 3, none⟩ u3).setCell ⟨g2, k * 5, none⟩ (.int .i64 ra)).setCell ⟨g2, k * 5 + 1, none⟩ (.int .i64 rb)).setCell ⟨g2, k * 5 + 2, none⟩ (.int .i64 rc)).setCell ⟨g2, k * 5 + 3, none⟩ (.int .i64 rd)).setCell ⟨g2, k * 5 + 4, none⟩ (.int .i64 re)), OR5 (later ((((((W0.setCell ⟨gb, 3, none⟩ u3).setCell ⟨g2, k * 5, none⟩ (.int .i64 ra)).setCell ⟨g2, k * 5 + 1, none⟩ (.int .i64 rb)).setCell ⟨g2, k * 5 + 2, none⟩ (.int .i64 rc)).setCell ⟨g2, k * 5 + 3, none⟩ (.int .i64 rd)).setCell ⟨g2, k * 5 + 4, none⟩ (.int .i64 re)) x) g2 (g2 + 1) (some ⟨g2, 0, none⟩) n (ys.set k ⟨ra, rb, rc, rd, re⟩) → R (.returned v) (later ((((((W0.setCell ⟨gb, 3, none⟩ u3).setCell ⟨g2, k * 5, none⟩ (.int .i64 ra)).setCell ⟨g2, k * 5 + 1, none⟩ (.int .i64 rb)).setCell ⟨g2, k * 5 + 2, none⟩ (.int .i64 rc)).setCell ⟨g2, k * 5 + 3, none⟩ (.int .i64 rd)).setCell ⟨g2, k * 5 + 4, none⟩ (.int .i64 re)) x)) :
    Calls P f args ((((((W0.setCell ⟨gb, 3, none⟩ u3).setCell ⟨g2, k * 5, none⟩ (.int .i64 ra)).setCell ⟨g2, k * 5 + 1, none⟩ (.int .i64 rb)).setCell ⟨g2, k * 5 + 2, none⟩ (.int .i64 rc)).setCell ⟨g2, k * 5 + 3, none⟩ (.int .i64 rd)).setCell ⟨g2, k * 5 + 4, none⟩ (.int .i64 re)) R := at_good ((h.off (fun k h1 h2 => Below.heap_setCell _ _ _ _ (by show k ≠ gb; omega))).store hq ⟨ra, rb, rc, rd, re⟩) hc h0n kk
theorem at_good1 {P : Program} {f : FuncId} {args : Array Value} {W0 : World} {R : Ending → World → Prop} {g2 n gb k : Nat} {ys : List R5} {v u4 u3 : Value} {ra rb rc rd re : Int} {q : R5} (h : OR5 W0 g2 (g2 + 1) (some ⟨g2, 0, none⟩) n ys) (hne : g2 ≠ gb) (hq : ys[k]? = some q)
    (hc : ∀ w, SR5 w g2 0 n (ys.set k ⟨ra, rb, rc, rd, re⟩) → Gv P f args w v) (h0n : 0 < n)
    (kk : ∀ x : Lat (((((((W0.setCell ⟨gb, 4, none⟩ u4).setCell ⟨gb, 3, none⟩ u3).setCell ⟨g2, k * 5, none⟩ (.int .i64 ra)).setCell ⟨g2, k * 5 + 1, none⟩ (.int .i64 rb)).setCell ⟨g2, k * 5 + 2, none⟩ (.int .i64 rc)).setCell ⟨g2, k * 5 + 3, none⟩ (.int .i64 rd)).setCell ⟨g2, k * 5 + 4, none⟩ (.int .i64 re)), OR5 (later (((((((W0.setCell ⟨gb, 4, none⟩ u4).setCell ⟨gb, 3, none⟩ u3).setCell ⟨g2, k * 5, none⟩ (.int .i64 ra)).setCell ⟨g2, k * 5 + 1, none⟩ (.int .i64 rb)).setCell ⟨g2, k * 5 + 2, none⟩ (.int .i64 rc)).setCell ⟨g2, k * 5 + 3, none⟩ (.int .i64 rd)).setCell ⟨g2, k * 5 + 4, none⟩ (.int .i64 re)) x) g2 (g2 + 1) (some ⟨g2, 0, none⟩) n (ys.set k ⟨ra, rb, rc, rd, re⟩) → R (.returned v) (later (((((((W0.setCell ⟨gb, 4, none⟩ u4).setCell ⟨gb, 3, none⟩ u3).setCell ⟨g2, k * 5, none⟩ (.int .i64 ra)).setCell ⟨g2, k * 5 + 1, none⟩ (.int .i64 rb)).setCell ⟨g2, k * 5 + 2, none⟩ (.int .i64 rc)).setCell ⟨g2, k * 5 + 3, none⟩ (.int .i64 rd)).setCell ⟨g2, k * 5 + 4, none⟩ (.int .i64 re)) x)) :
    Calls P f args (((((((W0.setCell ⟨gb, 4, none⟩ u4).setCell ⟨gb, 3, none⟩ u3).setCell ⟨g2, k * 5, none⟩ (.int .i64 ra)).setCell ⟨g2, k * 5 + 1, none⟩ (.int .i64 rb)).setCell ⟨g2, k * 5 + 2, none⟩ (.int .i64 rc)).setCell ⟨g2, k * 5 + 3, none⟩ (.int .i64 rd)).setCell ⟨g2, k * 5 + 4, none⟩ (.int .i64 re)) R := at_good (((h.off (fun k h1 h2 => Below.heap_setCell _ _ _ _ (by show k ≠ gb; omega))).off (fun k h1 h2 => Below.heap_setCell _ _ _ _ (by show k ≠ gb; omega))).store hq ⟨ra, rb, rc, rd, re⟩) hc h0n kk
theorem infoCab : (Try.prog.info? 25).map (fun i => (i.zero, i.size, i.bytes)) = some (some (.agg #[.int .i64 0, .int .i64 0, .int .i64 0, .int .i64 0, .int .i64 0]), 5, 40) := by kernel_rfl
set_option maxHeartbeats 4000000 in
theorem s_MoveCabin_any (g off n c : Nat) (xs : List R5) (z st : Int) (w : World) (hs : SR5 w g off n xs) (hn : n ≤ 1048576) : GR5 Try.prog 32 #[.slice (some ⟨g, off, none⟩) n c, .int .i64 z, .int .i64 st] w (moveF xs z st) := by
  unfold GR5
  obtain ⟨i0, hi, hz0, hz1, hz2⟩ := info_parts infoCab
  have Hi := Lib.hid hi
  have Hz0 := Lib.hid hz0
  have Hz1 := Lib.hid hz1
  have Hz2 := Lib.hid hz2
  clear hi hz0 hz1 hz2
  have hg := hs.1
  have hl := Lib.hid hs.2.1
  have hlen : Hid ((xs.flatMap R5.cs).length = n * 5) := Lib.hid (by rw [flat_len R5.cs_len, hl.out])
  have ho5 := Lib.hid (R5.one xs)
  cases hv : okList isCabin 12 xs
  · have hfin := Lib.hid (show moveF xs z st = ([], false) by simp [moveF, hv])
    go_enter Try.func32, Try.ntmps32
    go_wp2_with (first | (go_at_call 42; (first | refine (l5Good_ok g off n c xs _ (by first | exact hs | exact hs.later _ | exact hs.alloc _ | exact (hs.alloc _).later _ | exact (hs.later _).alloc _ | exact ((hs.later _).alloc _).later _ | exact ((hs.alloc _).later _).alloc _ | exact (hs.alloc _).alloc _ | exact ((hs.alloc _).alloc _).later _ | exact (((hs.alloc _).later _).alloc _).later _) hn).onL ?_ | refine (l5Good_ok g off n c xs _ (by first | exact hs | exact hs.later _ | exact hs.alloc _ | exact (hs.alloc _).later _ | exact (hs.later _).alloc _ | exact ((hs.later _).alloc _).later _ | exact ((hs.alloc _).later _).alloc _ | exact (hs.alloc _).alloc _ | exact ((hs.alloc _).alloc _).later _ | exact (((hs.alloc _).later _).alloc _).later _) hn).on ?_); intro xq) | (go_at_call 44; (first | refine (l5State_any _ _).onL ?_ | refine (l5State_any _ _).on ?_); intro xq))
    all_goals (go_ret2; rw [hfin.out]; exact R5sB.none_ (by repeat (with_reducible first | exact Below.refl _ _ | refine bw_later ?_ _ | refine bw_alloc ?_ _ | refine bw_drew ?_ | refine bw_set ?_ (Nat.le_refl _) _ | refine bw_set ?_ ?_ _ | exact Nat.le_refl _ | exact later_size _ _ | refine Nat.le_trans ?_ (later_size _ _) | refine Nat.le_trans ?_ (size_alloc_le _ _) | refine Nat.le_trans ?_ (Nat.le_add_right _ _))))
  cases hst0 : inB st 0 3
  · have hfin := Lib.hid (show moveF xs z st = ([], false) by
      have : ∀ f, mayB f st = false := fun f => by
        have := inB_f hst0
        simp [mayB, show st ≠ 0 by omega, show st ≠ 1 by omega, show st ≠ 2 by omega, show st ≠ 3 by omega]
      have h2 : ∀ k, moveAt xs st k = ([], false) := fun k => by unfold moveAt; split <;> simp [this]
      simp only [moveF, h2]
      (repeat' split) <;> rfl)
    go_enter Try.func32, Try.ntmps32
    go_wp2_with (first | (go_at_call 42; (first | refine (l5Good_ok g off n c xs _ (by first | exact hs | exact hs.later _ | exact hs.alloc _ | exact (hs.alloc _).later _ | exact (hs.later _).alloc _ | exact ((hs.later _).alloc _).later _ | exact ((hs.alloc _).later _).alloc _ | exact (hs.alloc _).alloc _ | exact ((hs.alloc _).alloc _).later _ | exact (((hs.alloc _).later _).alloc _).later _) hn).onL ?_ | refine (l5Good_ok g off n c xs _ (by first | exact hs | exact hs.later _ | exact hs.alloc _ | exact (hs.alloc _).later _ | exact (hs.later _).alloc _ | exact ((hs.later _).alloc _).later _ | exact ((hs.alloc _).later _).alloc _ | exact (hs.alloc _).alloc _ | exact ((hs.alloc _).alloc _).later _ | exact (((hs.alloc _).later _).alloc _).later _) hn).on ?_); intro xq) | (go_at_call 44; (first | refine (l5State_any _ _).onL ?_ | refine (l5State_any _ _).on ?_); intro xq))
    all_goals (go_ret2; rw [hfin.out]; exact R5sB.none_ (by repeat (with_reducible first | exact Below.refl _ _ | refine bw_later ?_ _ | refine bw_alloc ?_ _ | refine bw_drew ?_ | refine bw_set ?_ (Nat.le_refl _) _ | refine bw_set ?_ ?_ _ | exact Nat.le_refl _ | exact later_size _ _ | refine Nat.le_trans ?_ (later_size _ _) | refine Nat.le_trans ?_ (size_alloc_le _ _) | refine Nat.le_trans ?_ (Nat.le_add_right _ _))))
  have Hv := Lib.hid hv
  have hst := Lib.hid hst0
  go_enter Try.func32, Try.ntmps32
  go_wp2_with (first | (at_builtin; refine push_many rfl _ _ _ rfl i0 _ 5 40 Try.underlying34 Hi.out Hz0.out Hz1.out Hz2.out rfl (by decide) _ _ _ rfl (World.ownsRow_made _ #[] 0 (by first | exact (bw_later (Below.refl _ _) _).size | exact Nat.le_refl _) (by decide) rfl) (w0 := w) (by repeat (with_reducible first | exact Below.refl _ _ | refine bw_later ?_ _ | refine bw_alloc ?_ _ | refine bw_drew ?_ | refine bw_set ?_ (Nat.le_refl _) _ | refine bw_set ?_ ?_ _ | exact Nat.le_refl _ | exact later_size _ _ | refine Nat.le_trans ?_ (later_size _ _) | refine Nat.le_trans ?_ (size_alloc_le _ _) | refine Nat.le_trans ?_ (Nat.le_add_right _ _))) ⟨g, off, none⟩ n c (xs.flatMap R5.cs) rfl hlen.out (SR5.flat (by first | exact hs | exact hs.later _ | exact hs.alloc _ | exact (hs.alloc _).later _ | exact (hs.later _).alloc _ | exact ((hs.later _).alloc _).later _ | exact ((hs.alloc _).later _).alloc _ | exact (hs.alloc _).alloc _ | exact ((hs.alloc _).alloc _).later _ | exact (((hs.alloc _).later _).alloc _).later _)) ho5.out (by omega) (by omega) ?_; intro v1 y1 hown1 hk1) | (first | (go_at_call 42; (first | refine (l5Good_ok g off n c xs _ (by first | exact hs | exact hs.later _ | exact hs.alloc _ | exact (hs.alloc _).later _ | exact (hs.later _).alloc _ | exact ((hs.later _).alloc _).later _ | exact ((hs.alloc _).later _).alloc _ | exact (hs.alloc _).alloc _ | exact ((hs.alloc _).alloc _).later _ | exact (((hs.alloc _).later _).alloc _).later _) hn).onL ?_ | refine (l5Good_ok g off n c xs _ (by first | exact hs | exact hs.later _ | exact hs.alloc _ | exact (hs.alloc _).later _ | exact (hs.later _).alloc _ | exact ((hs.later _).alloc _).later _ | exact ((hs.alloc _).later _).alloc _ | exact (hs.alloc _).alloc _ | exact ((hs.alloc _).alloc _).later _ | exact (((hs.alloc _).later _).alloc _).later _) hn).on ?_); intro xq) | (go_at_call 44; (first | refine (l5State_any _ _).onL ?_ | refine (l5State_any _ _).on ?_); intro xq)))
  simp only [List.nil_append, Nat.zero_add] at hown1
  obtain ⟨A, c2, rfl, hO1⟩ := OR5_of_own hown1 hl.out
  clear hown1 hk1 hv hst0
  go_loopw [9] (fun i wr => ∃ (k : Nat) (ys : List R5), Below w.heap.size w wr ∧ k ≤ n ∧ i = .int .i64 (k : Int) ∧ OR5 wr w.heap.size wr.heap.size A n ys ∧ Hid (MInv xs z st k ys)) (fun i _ => n - (intOf i).toNat)
  case atStart => exact ⟨0, xs, (by repeat (with_reducible first | exact Below.refl _ _ | refine bw_later ?_ _ | refine bw_alloc ?_ _ | refine bw_drew ?_ | refine bw_set ?_ (Nat.le_refl _) _ | refine bw_set ?_ ?_ _ | exact Nat.le_refl _ | exact later_size _ _ | refine Nat.le_trans ?_ (later_size _ _) | refine Nat.le_trans ?_ (size_alloc_le _ _) | refine Nat.le_trans ?_ (Nat.le_add_right _ _))), by omega, rfl, hO1, Lib.hid (.inl ⟨rfl, fun j hj => absurd hj (by omega)⟩)⟩
  case round =>
    obtain ⟨k, ys, hbw, hk, rfl, hO, hI⟩ := hrel
    by_cases hlt : k < n
    · have h0n : 0 < n := by omega
      obtain ⟨g2, rfl, hlo, hhi, hgs, fz, hcc⟩ := hO.cells h0n
      obtain ⟨r, hr0⟩ := hO.at_ hlt
      obtain ⟨d0, d1, d2, d3, d4⟩ := hcc k r hr0
      have hkl : k < ys.length := (List.getElem?_eq_some_iff.1 hr0).1
      have hwz : w.heap.size ≤ wr.heap.size := hbw.size
      have hr := Lib.hid hr0
      clear hr0 hcc
      cases hp : (r.a == z)
      · have hp' : (r.a != z) = true := by simp only [bne, hp]; rfl
        have Hp := Lib.hid hp
        clear hp
        go_wp2_with (go_at_call 45; (first | refine (l5May_any r.d st s0 s1 hst.out _).onL ?_ | refine (l5May_any r.d st s0 s1 hst.out _).on ?_); intro xq)
        go_roundw
        case rel => exact ⟨k + 1, ys, (by repeat (with_reducible first | exact hbw | exact Below.refl _ _ | refine bw_later ?_ _ | refine bw_alloc ?_ _ | refine bw_drew ?_ | refine bw_set ?_ hlo _ | refine bw_set ?_ hwz _)), by omega, by go_num, (hO.below2 (by repeat (with_reducible first | assumption | exact Below.refl _ _ | refine bw_later ?_ _ | refine bw_alloc ?_ _ | refine bw_drew ?_))).wide (Nat.le_refl _) (Below.size (by repeat (with_reducible first | assumption | exact Below.refl _ _ | refine bw_later ?_ _ | refine bw_alloc ?_ _ | refine bw_drew ?_))), Lib.hid (minv_no hI.out hr.out (by first | (rw [Hp.out]; rfl) | (rw [Hm.out, Bool.and_false])))⟩
        case measure => simp [intOf]; omega
      · have hp' : (r.a != z) = false := by simp only [bne, hp]; rfl
        have Hp := Lib.hid hp
        clear hp
        obtain rfl := minv_hit hI.out hr.out Hp.out
        obtain ⟨hgood, h12⟩ := okList_t Hv.out hl.out
        obtain ⟨-, -, -, ⟨s0, s1⟩, ⟨t0, t1⟩⟩ := cabin_bd (good_each hgood hr.out)
        clear hgood
        cases hm : mayB r.d st
        · have Hm := Lib.hid hm
          go_wp2_with (go_at_call 45; (first | refine (l5May_any r.d st s0 s1 hst.out _).onL ?_ | refine (l5May_any r.d st s0 s1 hst.out _).on ?_); intro xq)
          go_roundw
          case rel => exact ⟨k + 1, _, (by repeat (with_reducible first | exact hbw | exact Below.refl _ _ | refine bw_later ?_ _ | refine bw_alloc ?_ _ | refine bw_drew ?_ | refine bw_set ?_ hlo _ | refine bw_set ?_ hwz _)), by omega, by go_num, (hO.below2 (by repeat (with_reducible first | assumption | exact Below.refl _ _ | refine bw_later ?_ _ | refine bw_alloc ?_ _ | refine bw_drew ?_))).wide (Nat.le_refl _) (Below.size (by repeat (with_reducible first | assumption | exact Below.refl _ _ | refine bw_later ?_ _ | refine bw_alloc ?_ _ | refine bw_drew ?_))), Lib.hid (minv_no hI.out hr.out (by first | (rw [Hp.out]; rfl) | (rw [Hm.out, Bool.and_false])))⟩
          case measure => simp [intOf]; omega
        · have Hm := Lib.hid hm
          cases ho : okList isCabin 12 (ys.set k (moved r st))
          · have Ho := Lib.hid ho
            have hge : g2 ≠ wr.heap.size := by omega
            have hcG : Hid (∀ g2 c2 w, SR5 w g2 0 n (ys.set k (moved r st)) → Gv Try.prog 42 #[.slice (some ⟨g2, 0, none⟩) n c2] w (.bool false)) := Lib.hid fun g2 c2 w h => ho ▸ l5Good_ok g2 0 n c2 (ys.set k (moved r st)) w h hn
            clear ho
            cases hc : ((r.d == 1) && (st == 0))
            · cases h1 : (r.d == 1)
              · have hmv := Lib.hid (show (⟨r.a, r.b, r.c, st, r.e⟩ : R5) = moved r st by simp only [moved, hc]; rfl)
                go_wp2_with (first | (go_at_call 42; refine at_good0 (g2 := g2) (n := n) (ys := ys) (by exact (hO.below2 (by repeat (with_reducible first | assumption | exact Below.refl _ _ | refine bw_later ?_ _ | refine bw_alloc ?_ _ | refine bw_drew ?_))).narrow) (by omega) hr.out (by rw [hmv.out]; exact hcG.out g2 c2) h0n ?_; intro xq2 hq2) | (go_at_call 45; (first | refine (l5May_any r.d st s0 s1 hst.out _).onL ?_ | refine (l5May_any r.d st s0 s1 hst.out _).on ?_); intro xq))
                rw [hmv.out] at hq2
                go_roundw
                case rel => exact ⟨k + 1, _, (by repeat (with_reducible first | exact hbw | exact Below.refl _ _ | refine bw_later ?_ _ | refine bw_alloc ?_ _ | refine bw_drew ?_ | refine bw_set ?_ hlo _ | refine bw_set ?_ hwz _)), by omega, by go_num, hq2.wide hlo (hq2.sr h0n).1, Lib.hid (minv_after Hv.out hr.out Hp.out Hm.out Ho.out)⟩
                case measure => simp [intOf]; omega
              · have h2 : (st == 0) = false := by rw [h1] at hc; simpa using hc
                have hmv := Lib.hid (show (⟨r.a, r.b, r.c, st, r.e⟩ : R5) = moved r st by simp only [moved, hc]; rfl)
                go_wp2_with (first | (go_at_call 42; refine at_good0 (g2 := g2) (n := n) (ys := ys) (by exact (hO.below2 (by repeat (with_reducible first | assumption | exact Below.refl _ _ | refine bw_later ?_ _ | refine bw_alloc ?_ _ | refine bw_drew ?_))).narrow) (by omega) hr.out (by rw [hmv.out]; exact hcG.out g2 c2) h0n ?_; intro xq2 hq2) | (go_at_call 45; (first | refine (l5May_any r.d st s0 s1 hst.out _).onL ?_ | refine (l5May_any r.d st s0 s1 hst.out _).on ?_); intro xq))
                rw [hmv.out] at hq2
                go_roundw
                case rel => exact ⟨k + 1, _, (by repeat (with_reducible first | exact hbw | exact Below.refl _ _ | refine bw_later ?_ _ | refine bw_alloc ?_ _ | refine bw_drew ?_ | refine bw_set ?_ hlo _ | refine bw_set ?_ hwz _)), by omega, by go_num, hq2.wide hlo (hq2.sr h0n).1, Lib.hid (minv_after Hv.out hr.out Hp.out Hm.out Ho.out)⟩
                case measure => simp [intOf]; omega
            · have h1 : (r.d == 1) = true := by simp only [Bool.and_eq_true] at hc; exact hc.1
              have h2 : (st == 0) = true := by simp only [Bool.and_eq_true] at hc; exact hc.2
              have hmv := Lib.hid (show (⟨r.a, r.b, r.c, st, r.e + 1⟩ : R5) = moved r st by simp only [moved, hc]; rfl)
              go_wp2_with (first | (go_at_call 42; refine at_good1 (g2 := g2) (n := n) (ys := ys) (by exact (hO.below2 (by repeat (with_reducible first | assumption | exact Below.refl _ _ | refine bw_later ?_ _ | refine bw_alloc ?_ _ | refine bw_drew ?_))).narrow) (by omega) hr.out (by rw [hmv.out]; exact hcG.out g2 c2) h0n ?_; intro xq2 hq2) | (go_at_call 45; (first | refine (l5May_any r.d st s0 s1 hst.out _).onL ?_ | refine (l5May_any r.d st s0 s1 hst.out _).on ?_); intro xq))
              rw [hmv.out] at hq2
              go_roundw
              case rel => exact ⟨k + 1, _, (by repeat (with_reducible first | exact hbw | exact Below.refl _ _ | refine bw_later ?_ _ | refine bw_alloc ?_ _ | refine bw_drew ?_ | refine bw_set ?_ hlo _ | refine bw_set ?_ hwz _)), by omega, by go_num, hq2.wide hlo (hq2.sr h0n).1, Lib.hid (minv_after Hv.out hr.out Hp.out Hm.out Ho.out)⟩
              case measure => simp [intOf]; omega
          · have Ho := Lib.hid ho
            have hge : g2 ≠ wr.heap.size := by omega
            have hcG : Hid (∀ g2 c2 w, SR5 w g2 0 n (ys.set k (moved r st)) → Gv Try.prog 42 #[.slice (some ⟨g2, 0, none⟩) n c2] w (.bool true)) := Lib.hid fun g2 c2 w h => ho ▸ l5Good_ok g2 0 n c2 (ys.set k (moved r st)) w h hn
            have HF := Lib.hid (show moveF ys z st = (ys.set k (moved r st), true) by rw [move_hit Hv.out hr.out Hp.out]; simp only [moveAt, hr.out, hm, ho, Bool.and_self, if_true])
            clear ho
            cases hc : ((r.d == 1) && (st == 0))
            · cases h1 : (r.d == 1)
              · have hmv := Lib.hid (show (⟨r.a, r.b, r.c, st, r.e⟩ : R5) = moved r st by simp only [moved, hc]; rfl)
                go_wp2_with (first | (go_at_call 42; refine at_good0 (g2 := g2) (n := n) (ys := ys) (by exact (hO.below2 (by repeat (with_reducible first | assumption | exact Below.refl _ _ | refine bw_later ?_ _ | refine bw_alloc ?_ _ | refine bw_drew ?_))).narrow) (by omega) hr.out (by rw [hmv.out]; exact hcG.out g2 c2) h0n ?_; intro xq2 hq2) | (go_at_call 45; (first | refine (l5May_any r.d st s0 s1 hst.out _).onL ?_ | refine (l5May_any r.d st s0 s1 hst.out _).on ?_); intro xq))
                go_ret2
                rw [hmv.out] at hq2
                rw [HF.out]
                exact ⟨_, n, c2, rfl, hq2.wide hlo (hq2.sr h0n).1, hn, (by repeat (with_reducible first | exact hbw | exact Below.refl _ _ | refine bw_later ?_ _ | refine bw_alloc ?_ _ | refine bw_drew ?_ | refine bw_set ?_ hlo _ | refine bw_set ?_ hwz _))⟩
              · have h2 : (st == 0) = false := by rw [h1] at hc; simpa using hc
                have hmv := Lib.hid (show (⟨r.a, r.b, r.c, st, r.e⟩ : R5) = moved r st by simp only [moved, hc]; rfl)
                go_wp2_with (first | (go_at_call 42; refine at_good0 (g2 := g2) (n := n) (ys := ys) (by exact (hO.below2 (by repeat (with_reducible first | assumption | exact Below.refl _ _ | refine bw_later ?_ _ | refine bw_alloc ?_ _ | refine bw_drew ?_))).narrow) (by omega) hr.out (by rw [hmv.out]; exact hcG.out g2 c2) h0n ?_; intro xq2 hq2) | (go_at_call 45; (first | refine (l5May_any r.d st s0 s1 hst.out _).onL ?_ | refine (l5May_any r.d st s0 s1 hst.out _).on ?_); intro xq))
                go_ret2
                rw [hmv.out] at hq2
                rw [HF.out]
                exact ⟨_, n, c2, rfl, hq2.wide hlo (hq2.sr h0n).1, hn, (by repeat (with_reducible first | exact hbw | exact Below.refl _ _ | refine bw_later ?_ _ | refine bw_alloc ?_ _ | refine bw_drew ?_ | refine bw_set ?_ hlo _ | refine bw_set ?_ hwz _))⟩
            · have h1 : (r.d == 1) = true := by simp only [Bool.and_eq_true] at hc; exact hc.1
              have h2 : (st == 0) = true := by simp only [Bool.and_eq_true] at hc; exact hc.2
              have hmv := Lib.hid (show (⟨r.a, r.b, r.c, st, r.e + 1⟩ : R5) = moved r st by simp only [moved, hc]; rfl)
              go_wp2_with (first | (go_at_call 42; refine at_good1 (g2 := g2) (n := n) (ys := ys) (by exact (hO.below2 (by repeat (with_reducible first | assumption | exact Below.refl _ _ | refine bw_later ?_ _ | refine bw_alloc ?_ _ | refine bw_drew ?_))).narrow) (by omega) hr.out (by rw [hmv.out]; exact hcG.out g2 c2) h0n ?_; intro xq2 hq2) | (go_at_call 45; (first | refine (l5May_any r.d st s0 s1 hst.out _).onL ?_ | refine (l5May_any r.d st s0 s1 hst.out _).on ?_); intro xq))
              go_ret2
              rw [hmv.out] at hq2
              rw [HF.out]
              exact ⟨_, n, c2, rfl, hq2.wide hlo (hq2.sr h0n).1, hn, (by repeat (with_reducible first | exact hbw | exact Below.refl _ _ | refine bw_later ?_ _ | refine bw_alloc ?_ _ | refine bw_drew ?_ | refine bw_set ?_ hlo _ | refine bw_set ?_ hwz _))⟩
    · obtain rfl : k = n := by omega
      have HF := Lib.hid (show moveF xs z st = ([], false) from minv_end Hv.out (by rw [hl.out]; exact hI.out))
      go_wp2
      go_ret2
      rw [HF.out]
      exact R5sB.none_ (by repeat (with_reducible first | exact hbw | exact Below.refl _ _ | refine bw_later ?_ _ | refine bw_alloc ?_ _ | refine bw_drew ?_ | refine bw_set ?_ hlo _ | refine bw_set ?_ hwz _))
theorem law_MoveCabin (A0 : Option Addr) (n0 c0 : Nat) (xs0 : List R5) (a1 : Int) (a2 : Int) (w : World) (rd0 : AR5 w A0 n0 xs0 ∧ n0 ≤ 9223372036854775807) (_ia1 : I64 a1) (_ia2 : I64 a2) : Gv Try.prog 9 #[.slice A0 n0 c0, .int .i64 a1, .int .i64 a2] w (.bool true) := by
  obtain ⟨ha0, hm0⟩ := rd0
  unfold Gv
  by_cases k0 : 1048576 < n0
  · have zz0 : szF n0 ((1048576 : Int)) = -1 := by unfold szF; rw [if_pos (by omega)]
    go_enter Try.func9, Try.ntmps9
    have hw : Below w.heap.size w w := Below.refl _ _
    go_wp2_with fail
    refine Calls.mono (szCabin_any A0 n0 c0 ((1048576 : Int)) hm0 (by omega) (by omega) _) ?_
    rintro _ w1 ⟨rfl, b1⟩
    replace hw := bw_trans hw b1
    have z1 := b1.size
    rw [zz0]
    clear zz0
    go_wp2_with fail
    go_ret
    exact ⟨rfl, hw⟩
  · have hn0 : n0 ≤ 1048576 := by omega
    have zz0 : szF n0 ((1048576 : Int)) = (1048576 : Int) - (n0 : Int) := by unfold szF; rw [if_neg (by omega)]
    go_enter Try.func9, Try.ntmps9
    have hw : Below w.heap.size w w := Below.refl _ _
    go_wp2_with fail
    refine Calls.mono (szCabin_any A0 n0 c0 ((1048576 : Int)) hm0 (by omega) (by omega) _) ?_
    rintro _ w1 ⟨rfl, b1⟩
    replace hw := bw_trans hw b1
    have z1 := b1.size
    rw [zz0]
    clear zz0
    go_wp2_with fail
    refine Calls.mono (toCabinS_any A0 n0 c0 xs0 _ (ha0.below2 hw) hn0) ?_
    rintro _ w2 ⟨g2, rfl, q2, hB2, b2⟩
    replace hw := bw_trans hw b2
    have z2 := b2.size
    have u2 := hB2.lt
    have hO2 := hB2.own q2 u2
    go_wp2_with fail
    refine Calls.mono (s_MoveCabin_any g2 0 n0 n0 xs0 a1 a2 _ hB2.reads hn0) ?_
    rintro _ w3 ⟨Ar3, m3, d3, rfl, hO3, l3, b3⟩
    replace hO2 := hO2.below2 b3
    replace hw := bw_trans hw b3
    have z3 := b3.size
    replace hB2 := hB2.below2 b3
    go_wp2_with fail
    refine Calls.mono (toCabinS_any A0 n0 c0 xs0 _ (ha0.below2 hw) hn0) ?_
    rintro _ w4 ⟨g4, rfl, q4, hB4, b4⟩
    replace hO3 := hO3.below2 b4
    replace hw := bw_trans hw b4
    have z4 := b4.size
    have u4 := hB4.lt
    have hO4 := hB4.own q4 u4
    go_wp2_with fail
    refine Calls.mono (i_MoveCabin_any g4 0 n0 n0 xs0 a1 a2 _ hB4.reads hn0) ?_
    rintro _ w5 ⟨Ar5, m5, d5, rfl, hO5, l5, b5⟩
    replace hO3 := hO3.below2 b5
    replace hO4 := hO4.below2 b5
    replace hw := bw_trans hw b5
    have z5 := b5.size
    replace hB4 := hB4.below2 b5
    go_wp2_with fail
    refine Calls.mono (eqCabinS_any _ _ m5 m3 d5 d3 _ _ _ hO5.reads hO3.reads l5 l3) ?_
    rintro _ w6 ⟨rfl, b6⟩
    replace hO3 := hO3.below2 b6
    replace hO4 := hO4.below2 b6
    replace hO5 := hO5.below2 b6
    replace hw := bw_trans hw b6
    have z6 := b6.size
    go_wp2_with fail
    refine Calls.mono (toCabinS_any A0 n0 c0 xs0 _ (ha0.below2 hw) hn0) ?_
    rintro _ w7 ⟨g7, rfl, q7, hB7, b7⟩
    replace hO3 := hO3.below2 b7
    replace hO4 := hO4.below2 b7
    replace hO5 := hO5.below2 b7
    replace hw := bw_trans hw b7
    have z7 := b7.size
    have u7 := hB7.lt
    have hO7 := hB7.own q7 u7
    go_wp2_with fail
    refine Calls.mono (eqCabinS_any _ _ n0 n0 n0 n0 xs0 xs0 _ hO4.reads hO7.reads hn0 hn0) ?_
    rintro _ w8 ⟨rfl, b8⟩
    replace hO3 := hO3.below2 b8
    replace hO4 := hO4.below2 b8
    replace hO5 := hO5.below2 b8
    replace hO7 := hO7.below2 b8
    replace hw := bw_trans hw b8
    have z8 := b8.size
    go_wp2_with fail
    refine Calls.mono (markCabinS_any _ _ _ n0 n0 1 _ _ hO4 hn0 (by omega) (by omega)) ?_
    rintro _ w9 ⟨rfl, hO4, t9⟩
    replace hO3 := hO3.tch t9 (by omega) (by omega)
    replace hO5 := hO5.tch t9 (by omega) (by omega)
    replace hw := hw.trans (t9.below (B := w.heap.size) (by omega) (by omega))
    have z9 := t9.size
    go_wp2_with fail
    refine Calls.mono (eqCabinS_any _ _ m5 m3 d5 d3 _ _ _ hO5.reads hO3.reads l5 l3) ?_
    rintro _ w10 ⟨rfl, b10⟩
    replace hO3 := hO3.below2 b10
    replace hO5 := hO5.below2 b10
    replace hw := bw_trans hw b10
    have z10 := b10.size
    go_wp2_with fail
    refine Calls.mono (markCabinS_any _ _ _ m5 d5 1 _ _ hO5 l5 (by omega) (by omega)) ?_
    rintro _ w11 ⟨rfl, hO5, t11⟩
    replace hO3 := hO3.tch t11 (by omega) (by omega)
    replace hw := hw.trans (t11.below (B := w.heap.size) (by omega) (by omega))
    have z11 := t11.size
    go_wp2_with fail
    refine Calls.mono (heldCabinS_any _ m5 d5 1 _ hO5.reads l5 (by omega) (by omega)) ?_
    rintro _ w12 ⟨rfl, b12⟩
    replace hO3 := hO3.below2 b12
    replace hO5 := hO5.below2 b12
    replace hw := bw_trans hw b12
    have z12 := b12.size
    go_wp2_with fail
    refine Calls.mono (toCabinS_any A0 n0 c0 xs0 _ (ha0.below2 hw) hn0) ?_
    rintro _ w13 ⟨g13, rfl, q13, hB13, b13⟩
    replace hO3 := hO3.below2 b13
    replace hO5 := hO5.below2 b13
    replace hw := bw_trans hw b13
    have z13 := b13.size
    have u13 := hB13.lt
    have hO13 := hB13.own q13 u13
    go_wp2_with fail
    refine Calls.mono (i_MoveCabin_any g13 0 n0 n0 xs0 a1 a2 _ hB13.reads hn0) ?_
    rintro _ w14 ⟨Ar14, m14, d14, rfl, hO14, l14, b14⟩
    replace hO3 := hO3.below2 b14
    replace hO5 := hO5.below2 b14
    replace hO13 := hO13.below2 b14
    replace hw := bw_trans hw b14
    have z14 := b14.size
    replace hB13 := hB13.below2 b14
    go_wp2_with fail
    refine Calls.mono (eqCabinS_any _ _ m14 m3 d14 d3 _ _ _ hO14.reads hO3.reads l14 l3) ?_
    rintro _ w15 ⟨rfl, b15⟩
    replace hO3 := hO3.below2 b15
    replace hO5 := hO5.below2 b15
    replace hO14 := hO14.below2 b15
    replace hw := bw_trans hw b15
    have z15 := b15.size
    go_wp2_with fail
    refine Calls.mono (heldCabinS_any _ m5 d5 1 _ hO5.reads l5 (by omega) (by omega)) ?_
    rintro _ w16 ⟨rfl, b16⟩
    replace hO3 := hO3.below2 b16
    replace hO5 := hO5.below2 b16
    replace hO14 := hO14.below2 b16
    replace hw := bw_trans hw b16
    have z16 := b16.size
    go_wp2_with fail
    go_ret
    exact ⟨rfl, hw⟩
end Go.Proofs.Ytnemamokjikdeaa
