/- Whether a byte stands in a text: the library's function, as the shelf tells it. -/
import Derived.Test.YteakffedlojcmaaStands
import Derived.Test.YteakffedlojcmaaShelfContains
namespace Go.Proofs.Yteakffedlojcmaa
open Go.RowKit
theorem contains_any (s : ByteArray) (c : UInt8) (w : World) : Gv Try.prog 19 #[.string s, .string ⟨#[c]⟩] w (.bool (hasB s c)) :=
  Calls.mono (Try.strings_Contains_one s c w) fun _ _ ⟨he, hw⟩ => ⟨by rw [he, hasB_index], by subst hw; exact Below.refl _ _⟩
end Go.Proofs.Yteakffedlojcmaa
