/- A text cut at each place where a byte stands: the reference. -/
import Derived.Test.YtnibhaabhjgmgaaDoorRows
import Derived.Test.YtnibhaabhjgmgaaDoorSplitL
import Derived.Test.YtnibhaabhjgmgaaDoorPush
namespace Go.Proofs.YtnibhaabhjgmgaaDoor
open Go.RowKit
theorem infoStr : (Tryd.prog.info? 9).map (fun i => (i.zero, i.size, i.bytes)) = some (some (.string ⟨#[]⟩), 1, 16) := by kernel_rfl
/-- What a call hands back: a row of its own that holds these texts, one at least. -/
def StrsB (w : World) (ps : List ByteArray) (e : Ending) (w' : World) : Prop :=
  ∃ g cap, e = .returned (.slice (some ⟨g, 0, none⟩) ps.length cap) ∧ w.heap.size ≤ g ∧ w'.ownsRow w.heap.size 9 1 (.slice (some ⟨g, 0, none⟩) ps.length cap) ps.length (ps.map Value.string) ∧ Below w.heap.size w w'
theorem StrsB.of {w w' : World} {v : Value} {ps : List ByteArray} (h : w'.ownsRow w.heap.size 9 1 v ps.length (ps.map Value.string)) (h0 : 0 < ps.length) (hb : Below w.heap.size w w') : StrsB w ps (.returned v) w' := by
  rcases h.2 with ⟨_, h1⟩ | ⟨g, cap, cur, rfl, hg, _⟩
  · omega
  · exact ⟨g, cap, rfl, hg, h, hb⟩
theorem splitS_len (s : ByteArray) (c : UInt8) : (splitS s c).length ≤ s.size + 1 := by
  have := splitL_len c s.data.toList
  have e : s.data.toList.length = s.size := by simp
  simp only [splitS, List.length_map]
  omega
theorem splitS_pos (s : ByteArray) (c : UInt8) : 0 < (splitS s c).length := by
  have := splitL_pos c s.data.toList
  simpa [splitS] using this
set_option maxRecDepth 20000 in
theorem split_any (s : ByteArray) (c : UInt8) (ci : Int) (hci : ci = (c.toNat : Int)) (hs : s.size ≤ 1048576) (w : World) : Calls Tryd.prog 15 #[.string s, .int .u8 ci] w (StrsB w (splitS s c)) := by
  obtain ⟨i0, hi, hz0, hz1, hz2⟩ := info_parts infoStr
  have Hi := Lib.hid hi
  have Hz0 := Lib.hid hz0
  have Hz1 := Lib.hid hz1
  have Hz2 := Lib.hid hz2
  clear hi hz0 hz1 hz2
  have hsp := splitS_pos s c
  go_enter Tryd.func15, Tryd.ntmps15
  go_wp2
  go_loopw [5, 6, 7] (fun t f i wr => ∃ (k fr : Nat) (ps : List ByteArray), Below w.heap.size w wr ∧ k ≤ s.size ∧ i = .int .i64 (k : Int) ∧ f = .int .i64 (fr : Int) ∧ fr ≤ k ∧ ps.length ≤ fr ∧ wr.ownsRow w.heap.size 9 1 t ps.length (ps.map Value.string) ∧ Hid (Cut s c k fr ps)) (fun _ _ i _ => s.size - (intOf i).toNat)
  case atStart => exact ⟨0, 0, [], (by repeat (with_reducible first | exact hbD | exact Below.refl _ _ | refine bw_later ?_ _ | refine bw_alloc ?_ _ | refine bw_drew ?_ | refine bw_set ?_ (Nat.le_refl _) _ | refine bw_set ?_ ?_ _ | exact Nat.le_refl _ | exact later_size _ _ | refine Nat.le_trans ?_ (later_size _ _) | refine Nat.le_trans ?_ (size_alloc_le _ _) | refine Nat.le_trans ?_ (Nat.le_add_right _ _))), by omega, rfl, rfl, by omega, by simp, World.ownsRow_made w #[] 0 (Nat.le_refl _) (by decide) rfl, Lib.hid (Cut.start s c)⟩
  case round =>
    obtain ⟨k, fr, ps, hbw, hk, rfl, rfl, hfk, hlen, hown, hC⟩ := hrel
    obtain ⟨y, rfl⟩ := exists_later hbw
    clear hbw
    by_cases hlt : k < s.size
    · have hbyte : (s[k]).toNat < 256 := UInt8.toNat_lt _
      by_cases hq : s[k] = c
      · have e : (((s[k]).toNat : Int) == ci) = true := by simp [hci, hq]
        have hQ := Lib.hid (hC.out.hit hlt hq)
        clear hq
        have h63 : (ps.length) ≤ 1048576 := by omega
        go_wp2_with (at_builtin; refine push_law rfl _ _ _ rfl i0 _ 1 16 Tryd.underlying35 Hi.out Hz0.out Hz1.out Hz2.out rfl (by decide) _ _ _ rfl (by first | exact hown | exact hown.alloc _) (by repeat (with_reducible first | exact hbD | exact Below.refl _ _ | refine bw_later ?_ _ | refine bw_alloc ?_ _ | refine bw_drew ?_ | refine bw_set ?_ (Nat.le_refl _) _ | refine bw_set ?_ ?_ _ | exact Nat.le_refl _ | exact later_size _ _ | refine Nat.le_trans ?_ (later_size _ _) | refine Nat.le_trans ?_ (size_alloc_le _ _) | refine Nat.le_trans ?_ (Nat.le_add_right _ _))) _ (by simp) rfl rfl (by simp [Value.oneCell']) (by omega) (by omega) ?_; intro v1 y1 hown1)
        go_roundw
        case rel => exact ⟨_, _, _, ⟨(by repeat (with_reducible first | exact hbD | exact Below.refl _ _ | refine bw_later ?_ _ | refine bw_alloc ?_ _ | refine bw_drew ?_ | refine bw_set ?_ (Nat.le_refl _) _ | refine bw_set ?_ ?_ _ | exact Nat.le_refl _ | exact later_size _ _ | refine Nat.le_trans ?_ (later_size _ _) | refine Nat.le_trans ?_ (size_alloc_le _ _) | refine Nat.le_trans ?_ (Nat.le_add_right _ _))), k + 1, by omega, by go_num, k + 1, by go_num, by omega, _, by simp; omega, by simpa using hown1, hQ⟩, rfl, rfl, rfl⟩
        case measure => simp [intOf]; omega
      · have e : (((s[k]).toNat : Int) == ci) = false := by
          have : (s[k]).toNat ≠ c.toNat := fun h => hq (UInt8.toNat_inj.1 h)
          simp [hci]; omega
        have hQ := Lib.hid (hC.out.skip hlt hq)
        clear hq
        go_wp2
        go_roundw
        case rel => exact ⟨k + 1, fr, ps, (by repeat (with_reducible first | exact hbD | exact Below.refl _ _ | refine bw_later ?_ _ | refine bw_alloc ?_ _ | refine bw_drew ?_ | refine bw_set ?_ (Nat.le_refl _) _ | refine bw_set ?_ ?_ _ | exact Nat.le_refl _ | exact later_size _ _ | refine Nat.le_trans ?_ (later_size _ _) | refine Nat.le_trans ?_ (size_alloc_le _ _) | refine Nat.le_trans ?_ (Nat.le_add_right _ _))), by omega, by go_num, rfl, by omega, hlen, hown, hQ⟩
        case measure => simp [intOf]; omega
    · obtain rfl : k = s.size := by omega
      have hQ := Lib.hid hC.out.done
      have h63 : (ps.length) ≤ 1048576 := by omega
      go_wp2_with (at_builtin; refine push_law rfl _ _ _ rfl i0 _ 1 16 Tryd.underlying35 Hi.out Hz0.out Hz1.out Hz2.out rfl (by decide) _ _ _ rfl (by first | exact hown | exact hown.alloc _) (by repeat (with_reducible first | exact hbD | exact Below.refl _ _ | refine bw_later ?_ _ | refine bw_alloc ?_ _ | refine bw_drew ?_ | refine bw_set ?_ (Nat.le_refl _) _ | refine bw_set ?_ ?_ _ | exact Nat.le_refl _ | exact later_size _ _ | refine Nat.le_trans ?_ (later_size _ _) | refine Nat.le_trans ?_ (size_alloc_le _ _) | refine Nat.le_trans ?_ (Nat.le_add_right _ _))) _ (by simp) rfl rfl (by simp [Value.oneCell']) (by omega) (by omega) ?_; intro v1 y1 hown1)
      go_ret
      exact StrsB.of (by rw [hQ.out]; simpa using hown1) hsp (by repeat (with_reducible first | exact hbD | exact Below.refl _ _ | refine bw_later ?_ _ | refine bw_alloc ?_ _ | refine bw_drew ?_ | refine bw_set ?_ (Nat.le_refl _) _ | refine bw_set ?_ ?_ _ | exact Nat.le_refl _ | exact later_size _ _ | refine Nat.le_trans ?_ (later_size _ _) | refine Nat.le_trans ?_ (size_alloc_le _ _) | refine Nat.le_trans ?_ (Nat.le_add_right _ _)))
end Go.Proofs.YtnibhaabhjgmgaaDoor
