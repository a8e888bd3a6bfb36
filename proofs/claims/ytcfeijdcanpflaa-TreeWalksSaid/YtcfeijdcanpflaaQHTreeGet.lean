import Derived.Test.YtcfeijdcanpflaaQHTreeGrow
import Derived.Test.YtcfeijdcanpflaaQHxtreeGet
import Derived.Test.YtcfeijdcanpflaaQHxtreeAt
set_option linter.unusedVariables false
set_option linter.unusedSimpArgs false
namespace Go.Proofs.Ytcfeijdcanpflaa.H
open Go.RowKit Go.Proofs.YtcfeijdcanpflaaW.PrintWords Go.Proofs.YtcfeijdcanpflaaW.PrintLast Go.Proofs.YtcfeijdcanpflaaW.PrintMore
abbrev GetR := Int × Int × Int × List S26 × Int × Int × Bool
def sumFrom (x : Int) : List S26 → Int
  | [] => x
  | t :: r => sumFrom (wrap64 (x + t.f2)) r
def getS : Int → S26 → List Int → GetR
  | x, t, [] => (t.f0, t.f1, t.f2, t.f3, x, wrap64 (x + t.f2), true)
  | x, t, i :: p => if i < 0 ∨ i ≥ (t.f3.length : Int) then (0, 0, 0, [], 0, 0, false) else getS (sumFrom x (t.f3.take i.toNat)) (rd_T26 t.f3 i) p
section
variable (path : List Int)
end
def getF (t : S26) (path : List Int) : GetR := if okB t then getS 0 t path else (0, 0, 0, [], 0, 0, false)
mutual
/-- The path to a place, told from where the tree begins. -/
def atT : S26 → Int → List Int
  | ⟨_, _, _, kids⟩, p => atL kids 0 p
def atL : List S26 → Int → Int → List Int
  | [], _, _ => []
  | t :: r, i, p => if p ≥ t.f2 then atL r (i + 1) (p - t.f2) else i :: atT t p
end
def atF (t : S26) (p : Int) : List Int := if okB t = true ∧ 0 ≤ p ∧ p < t.f2 then atT t p else []
end Go.Proofs.Ytcfeijdcanpflaa.H
