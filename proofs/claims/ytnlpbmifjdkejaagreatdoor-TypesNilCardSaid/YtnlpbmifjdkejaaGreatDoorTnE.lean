/- The fixed calls of the law answer true: by the evaluator. -/
import Derived.Test.YtnlpbmifjdkejaaGreatDoorFvO
import Derived.Test.YtnlpbmifjdkejaaGreatDoorRows
import Derived.KernelRfl
namespace Go.Proofs.YtnlpbmifjdkejaaGreatDoor
open Go.RowKit Go.Ev
noncomputable section
def lKeys : List ByteArray := [⟨#[97, 110, 100]⟩, ⟨#[97, 110, 100, 97, 108, 115, 111]⟩, ⟨#[99, 97, 115, 101]⟩, ⟨#[100, 97, 116, 97, 116, 121, 112, 101]⟩, ⟨#[100, 105, 118]⟩, ⟨#[101, 108, 115, 101]⟩, ⟨#[101, 110, 100]⟩, ⟨#[101, 120, 99, 101, 112, 116, 105, 111, 110]⟩, ⟨#[102, 110]⟩, ⟨#[102, 117, 110]⟩, ⟨#[104, 97, 110, 100, 108, 101]⟩, ⟨#[105, 102]⟩, ⟨#[105, 110]⟩, ⟨#[105, 116, 111, 115]⟩, ⟨#[108, 101, 116]⟩, ⟨#[109, 111, 100]⟩, ⟨#[110, 111, 116]⟩, ⟨#[111, 102]⟩, ⟨#[111, 114, 100]⟩, ⟨#[111, 114, 101, 108, 115, 101]⟩, ⟨#[114, 97, 105, 115, 101]⟩, ⟨#[114, 101, 102]⟩, ⟨#[115, 105, 122, 101]⟩, ⟨#[115, 116, 114]⟩, ⟨#[116, 104, 101, 110]⟩, ⟨#[118, 97, 108]⟩]
def lSigns : List ByteArray := [⟨#[45, 62]⟩, ⟨#[61, 62]⟩, ⟨#[58, 58]⟩, ⟨#[58, 61]⟩, ⟨#[60, 61]⟩, ⟨#[62, 61]⟩, ⟨#[60, 62]⟩, ⟨#[61]⟩, ⟨#[60]⟩, ⟨#[62]⟩, ⟨#[43]⟩, ⟨#[45]⟩, ⟨#[42]⟩, ⟨#[94]⟩, ⟨#[33]⟩, ⟨#[126]⟩, ⟨#[40]⟩, ⟨#[41]⟩, ⟨#[44]⟩, ⟨#[59]⟩, ⟨#[124]⟩, ⟨#[95]⟩]
def tabs : List (Nat × List Value) := [(2, lSigns.map .string), (3, lKeys.map .string)]
theorem known_eval : evalsM Tryz.prog 4470 10 [] tabs 7 = some (.bool true) := by kernel_rfl
end
end Go.Proofs.YtnlpbmifjdkejaaGreatDoor
