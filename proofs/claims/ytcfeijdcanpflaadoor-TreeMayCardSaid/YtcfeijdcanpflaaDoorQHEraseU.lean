/- All nodes of a tree, with and without where they lie. -/
import Derived.Test.YtcfeijdcanpflaaDoorQHTreeIterU
import Derived.Test.YtcfeijdcanpflaaDoorQHTreeAll
set_option linter.unusedVariables false
set_option linter.unusedSimpArgs false
namespace Go.Proofs.YtcfeijdcanpflaaDoor.H
open Go.RowKit Go.Proofs.YtcfeijdcanpflaaDoorW.PrintWords Go.Proofs.YtcfeijdcanpflaaDoorW.PrintLast Go.Proofs.YtcfeijdcanpflaaDoorW.PrintMore
def er (x : AT × Int × Int) : S25 × Int × Int := (x.1.erase, x.2)
mutual
theorem er_pre : ∀ (T : AT) (f d : Int), (T.pre f d).map er = preT T.erase f d
  | .node k w wd A c kids, f, d => by simp only [AT.pre, AT.erase, preT, List.map_cons, er_preL kids f d, er]
theorem er_preL : ∀ (l : List AT) (f d : Int), (preL l f d).map er = preTL (eraseL l) f d
  | [], f, d => by simp only [preL, eraseL, preTL, List.map_nil]
  | T :: r, f, d => by
    have : T.erase.f2 = T.wd := by rw [erase_f]
    simp only [preL, eraseL, preTL, List.map_append, er_pre T, er_preL r, this]
end
def allT (t : S25) : List (S25 × Int × Int) := if okB t then preT t 0 0 else []
theorem er_all (T : AT) : T.all.map er = allT T.erase := by
  unfold AT.all allT
  split
  · exact er_pre T 0 0
  · rfl
end Go.Proofs.YtcfeijdcanpflaaDoor.H
