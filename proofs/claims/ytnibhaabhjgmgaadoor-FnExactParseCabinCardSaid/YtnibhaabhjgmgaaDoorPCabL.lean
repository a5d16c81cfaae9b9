/- The cabin with a text: the law's walk. -/
import Derived.Test.YtnibhaabhjgmgaaDoorPCabS
namespace Go.Proofs.YtnibhaabhjgmgaaDoor
open Go.RowKit
theorem law_ParseCabin (a : ByteArray) (w : World) (_h0 : a.size ≤ maxLen) (ht : Tab w) (he : Ers w) (hm : Mx w) (hN : Nm w) : Gv Tryd.prog 4 #[.string a] w (.bool true) := by
  unfold Gv
  by_cases hs : a.size ≤ 1048576
  rotate_left
  · have h1 : decide ((1048576 : Int) < (a.size : Int)) = true := by simp; omega
    go_enter Tryd.func4, Tryd.ntmps4
    go_wp2_with fail
    all_goals (go_ret; exact ⟨rfl, (by repeat (with_reducible first | exact hbD | exact Below.refl _ _ | refine bw_later ?_ _ | refine bw_alloc ?_ _ | refine bw_drew ?_ | refine bw_set ?_ (Nat.le_refl _) _ | refine bw_set ?_ ?_ _ | exact Nat.le_refl _ | exact later_size _ _ | refine Nat.le_trans ?_ (later_size _ _) | refine Nat.le_trans ?_ (size_alloc_le _ _) | refine Nat.le_trans ?_ (Nat.le_add_right _ _)))⟩)
  have h1 : decide ((1048576 : Int) < (a.size : Int)) = false := by simp; omega
  have hS := Lib.hid (fun w => s_ParseCabin_any a hs w)
  have hI := Lib.hid (fun w ht he hm hN => i_ParseCabin_any a hs w ht he hm hN)
  generalize pcF a = x at *
  obtain ⟨⟨ra, rb, rc, rd, re⟩, b⟩ := x
  have hS' : Hid (∀ w, Gv Tryd.prog 8 #[.string a] w (.tuple #[.agg #[.int .i64 ra, .int .i64 rb, .int .i64 rc, .int .i64 rd, .int .i64 re], .bool b])) := Lib.hid fun w => hS.out w
  have hI' : Hid (∀ w, Tab w → Ers w → Mx w → Nm w → Gv Tryd.prog 9 #[.string a] w (.tuple #[.agg #[.int .i64 ra, .int .i64 rb, .int .i64 rc, .int .i64 rd, .int .i64 re], .bool b])) := Lib.hid fun w ht he hm hN => hI.out w ht he hm hN
  clear hS hI
  go_enter Tryd.func4, Tryd.ntmps4
  go_wp2_with (first | (go_at_call 8; refine (hS'.out _).on ?_; intro xq) | (go_at_call 9; refine (hI'.out _ (ht.keep (by repeat (with_reducible first | exact hbD | exact Below.refl _ _ | refine bw_later ?_ _ | refine bw_alloc ?_ _ | refine bw_drew ?_ | refine bw_set ?_ (Nat.le_refl _) _ | refine bw_set ?_ ?_ _ | exact Nat.le_refl _ | exact later_size _ _ | refine Nat.le_trans ?_ (later_size _ _) | refine Nat.le_trans ?_ (size_alloc_le _ _) | refine Nat.le_trans ?_ (Nat.le_add_right _ _)))) (he.keep (by repeat (with_reducible first | exact hbD | exact Below.refl _ _ | refine bw_later ?_ _ | refine bw_alloc ?_ _ | refine bw_drew ?_ | refine bw_set ?_ (Nat.le_refl _) _ | refine bw_set ?_ ?_ _ | exact Nat.le_refl _ | exact later_size _ _ | refine Nat.le_trans ?_ (later_size _ _) | refine Nat.le_trans ?_ (size_alloc_le _ _) | refine Nat.le_trans ?_ (Nat.le_add_right _ _)))) (hm.keep (by repeat (with_reducible first | exact hbD | exact Below.refl _ _ | refine bw_later ?_ _ | refine bw_alloc ?_ _ | refine bw_drew ?_ | refine bw_set ?_ (Nat.le_refl _) _ | refine bw_set ?_ ?_ _ | exact Nat.le_refl _ | exact later_size _ _ | refine Nat.le_trans ?_ (later_size _ _) | refine Nat.le_trans ?_ (size_alloc_le _ _) | refine Nat.le_trans ?_ (Nat.le_add_right _ _)))) (hN.keep (by repeat (with_reducible first | exact hbD | exact Below.refl _ _ | refine bw_later ?_ _ | refine bw_alloc ?_ _ | refine bw_drew ?_ | refine bw_set ?_ (Nat.le_refl _) _ | refine bw_set ?_ ?_ _ | exact Nat.le_refl _ | exact later_size _ _ | refine Nat.le_trans ?_ (later_size _ _) | refine Nat.le_trans ?_ (size_alloc_le _ _) | refine Nat.le_trans ?_ (Nat.le_add_right _ _))))).on ?_; intro xq) | (go_at_call 10; refine (eqCabin_any ⟨ra, rb, rc, rd, re⟩ ⟨ra, rb, rc, rd, re⟩ _).on ?_; intro xq))
  all_goals (go_ret; exact ⟨rfl, (by repeat (with_reducible first | exact hbD | exact Below.refl _ _ | refine bw_later ?_ _ | refine bw_alloc ?_ _ | refine bw_drew ?_ | refine bw_set ?_ (Nat.le_refl _) _ | refine bw_set ?_ ?_ _ | exact Nat.le_refl _ | exact later_size _ _ | refine Nat.le_trans ?_ (later_size _ _) | refine Nat.le_trans ?_ (size_alloc_le _ _) | refine Nat.le_trans ?_ (Nat.le_add_right _ _)))⟩)
end Go.Proofs.YtnibhaabhjgmgaaDoor
