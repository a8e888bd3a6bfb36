/- awake answers true. -/
import Derived.Test.YtaphacgdokhmmaaDoorVHCacheLaw
set_option linter.unusedVariables false
set_option linter.unusedSimpArgs false
namespace Go.Proofs.YtaphacgdokhmmaaDoor.H
open Go.RowKit Go.Shelf Go.Proofs.YtaphacgdokhmmaaDoorW.PrintWords Go.Proofs.YtaphacgdokhmmaaDoorW.PrintLast Go.Proofs.YtaphacgdokhmmaaDoorW.PrintMore
def awM0 : ByteArray → List Res := fun _ => []
def awM1 : ByteArray → List Res := putM awM0 ⟨#[117]⟩ (dec 1, [1, 2])
def awM2 : ByteArray → List Res := putM awM1 ⟨#[118]⟩ (dec 2, [3])
def awM3 : ByteArray → List Res := putM awM2 ⟨#[117]⟩ (dec 3, [])
def awM4 : ByteArray → List Res := putM awM3 ⟨#[117]⟩ (dec 4, [])
def awM5 : ByteArray → List Res := putM awM4 ⟨#[117]⟩ (dec 5, [])
def awM6 : ByteArray → List Res := putM awM5 ⟨#[117]⟩ (dec 6, [])
end Go.Proofs.YtaphacgdokhmmaaDoor.H
