/- All nodes of a tree, with and without where they lie. -/
import Derived.Test.YtghbfjmmjfklfaaQHTreeIter
import Derived.Test.YtghbfjmmjfklfaaQHTreeAll
set_option linter.unusedVariables false
set_option linter.unusedSimpArgs false
namespace Go.Proofs.Ytghbfjmmjfklfaa.H
open Go.RowKit Go.Proofs.YtghbfjmmjfklfaaW.PrintWords Go.Proofs.YtghbfjmmjfklfaaW.PrintLast Go.Proofs.YtghbfjmmjfklfaaW.PrintMore
def er (x : AT × Int × Int) : S27 × Int × Int := (x.1.erase, x.2)
mutual
theorem er_pre : ∀ (T : AT) (f d : Int), (T.pre f d).map er = preT T.erase f d
  | .node k w wd A c kids, f, d => by simp only [AT.pre, AT.erase, preT, List.map_cons, er_preL kids f d, er]
theorem er_preL : ∀ (l : List AT) (f d : Int), (preL l f d).map er = preTL (eraseL l) f d
  | [], f, d => by simp only [preL, eraseL, preTL, List.map_nil]
  | T :: r, f, d => by
    have : T.erase.f2 = T.wd := by rw [erase_f]
    simp only [preL, eraseL, preTL, List.map_append, er_pre T, er_preL r, this]
end
def allT (t : S27) : List (S27 × Int × Int) := if okB t then preT t 0 0 else []
theorem er_all (T : AT) : T.all.map er = allT T.erase := by
  unfold AT.all allT
  split
  · exact er_pre T 0 0
  · rfl
theorem allT_length (t : S27) : (allT t).length ≤ tsize t := by
  unfold allT
  split
  · rw [preT_length]; exact Nat.le_refl _
  · exact Nat.zero_le _
theorem all_length (T : AT) : T.all.length ≤ tsize T.erase := by
  rw [← List.length_map (f := er), er_all]; exact allT_length _
end Go.Proofs.Ytghbfjmmjfklfaa.H
