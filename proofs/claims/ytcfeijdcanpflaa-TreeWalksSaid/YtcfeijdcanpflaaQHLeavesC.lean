import Derived.Test.YtcfeijdcanpflaaQHTreeLeaves
import Derived.Test.YtcfeijdcanpflaaQHTreeAll
set_option linter.unusedVariables false
set_option linter.unusedSimpArgs false
namespace Go.Proofs.Ytcfeijdcanpflaa.H
open Go.RowKit Go.Proofs.YtcfeijdcanpflaaW.PrintWords Go.Proofs.YtcfeijdcanpflaaW.PrintLast Go.Proofs.YtcfeijdcanpflaaW.PrintMore
def er (x : AT × Int × Int) : S26 × Int × Int := (x.1.erase, x.2)
mutual
theorem er_pre : ∀ (T : AT) (f d : Int), (T.pre f d).map er = preT T.erase f d
  | .node k w wd A c kids, f, d => by simp only [AT.pre, AT.erase, preT, List.map_cons, er_preL kids f d, er]
theorem er_preL : ∀ (l : List AT) (f d : Int), (preL l f d).map er = preTL (eraseL l) f d
  | [], f, d => by simp only [preL, eraseL, preTL, List.map_nil]
  | T :: r, f, d => by
    have : T.erase.f2 = T.wd := by rw [erase_f]
    simp only [preL, eraseL, preTL, List.map_append, er_pre T, er_preL r, this]
end
def allT (t : S26) : List (S26 × Int × Int) := if okB t then preT t 0 0 else []
theorem er_all (T : AT) : T.all.map er = allT T.erase := by
  unfold AT.all allT
  split
  · exact er_pre T 0 0
  · rfl
theorem allT_length (t : S26) : (allT t).length ≤ tsize t := by
  unfold allT
  split
  · rw [preT_length]; exact Nat.le_refl _
  · exact Nat.zero_le _
theorem all_length (T : AT) : T.all.length ≤ tsize T.erase := by
  rw [← List.length_map (f := er), er_all]; exact allT_length _
def leavesS (xs : List (S26 × Int × Int)) : List S26 := (xs.filter fun x => decide (x.1.f0 ≤ 50)).map fun x => ⟨x.1.f0, x.1.f1, x.1.f2, []⟩
theorem leavesA_er (xs : List (AT × Int × Int)) : leavesA xs = leavesS (xs.map er) := by
  induction xs with
  | nil => rfl
  | cons x r ih =>
    have e0 : x.1.erase.f0 = x.1.k := by rw [erase_f]
    have e1 : x.1.erase.f1 = x.1.w := by rw [erase_f]
    have e2 : x.1.erase.f2 = x.1.wd := by rw [erase_f]
    unfold leavesA leavesS at ih ⊢
    simp only [List.map_cons, List.filter_cons, er, e0]
    split
    · simp only [List.map_cons, e0, e1, e2]
      rw [ih]
    · rw [ih]
def tree_Leaves.f (a0_0 : Int) (a0_1 : Int) (a0_2 : Int) (l0_3 : List (S26)) : Option (List (S26)) := if tsize ⟨a0_0, a0_1, a0_2, l0_3⟩ ≤ 2000000 then some (leavesS (allT ⟨a0_0, a0_1, a0_2, l0_3⟩)) else none
theorem tree_Leaves.calls (a0_0 : Int) (a0_1 : Int) (a0_2 : Int) (A0_3 : Option Addr) (c0_3 : Nat) (l0_3 : List (S26)) (r : List (S26)) (w : World) (hr0_3 : Kd.C k26 w A0_3 l0_3.length l0_3) (hc0_3 : l0_3.length ≤ c0_3) (h : tree_Leaves.f a0_0 a0_1 a0_2 l0_3 = some r) :
    Calls Try.prog 15 #[.agg #[.int .u8 a0_0, .int .u8 a0_1, .int .i64 a0_2, .slice A0_3 l0_3.length c0_3]] w fun e w' => ∃ v0_ : Value, e = .returned v0_ ∧ Kd.R k26 26 w' w.heap.size (fun _ => True) v0_ r ∧ Below w.heap.size w w' := by
  unfold tree_Leaves.f at h
  by_cases hsz : tsize ⟨a0_0, a0_1, a0_2, l0_3⟩ ≤ 2000000
  case neg => rw [if_neg hsz] at h; cases h
  rw [if_pos hsz] at h
  cases h
  obtain ⟨kids, he, hT⟩ := exists_AT w _ ⟨a0_0, a0_1, a0_2, l0_3⟩ (Nat.lt_succ_self _) A0_3 c0_3 hc0_3 hr0_3
  simp only at he hT
  subst he
  have hL := leaves_in (.node a0_0 a0_1 a0_2 A0_3 c0_3 kids) w hT (Nat.le_trans (all_length _) (by simpa only [AT.erase] using hsz))
  simp only [AT.k, AT.w, AT.wd, AT.A, AT.c, AT.kids] at hL
  rw [leavesA_er, er_all, AT.erase] at hL
  rw [eraseL_length]
  exact hL
end Go.Proofs.Ytcfeijdcanpflaa.H
