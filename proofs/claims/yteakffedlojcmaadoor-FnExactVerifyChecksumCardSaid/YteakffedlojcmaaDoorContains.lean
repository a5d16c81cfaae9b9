/- Whether a byte stands in a text: the library's function, as the shelf tells it. -/
import Derived.Test.YteakffedlojcmaaDoorStands
import Derived.Test.YteakffedlojcmaaDoorShelfContains
namespace Go.Proofs.YteakffedlojcmaaDoor
open Go.RowKit
theorem contains_any (s : ByteArray) (c : UInt8) (w : World) : Gv Tryd.prog 41 #[.string s, .string ⟨#[c]⟩] w (.bool (hasB s c)) :=
  Calls.mono (Tryd.strings_Contains_one s c w) fun _ _ ⟨he, hw⟩ => ⟨by rw [he, hasB_index], by subst hw; exact Below.refl _ _⟩
end Go.Proofs.YteakffedlojcmaaDoor
