import Derived.Test.YtcfeijdcanpflaaQHTreeRefs
import Derived.Test.YtcfeijdcanpflaaQHxglossatorlaw15TreeFinds
set_option linter.unusedVariables false
set_option linter.unusedSimpArgs false
namespace Go.Proofs.Ytcfeijdcanpflaa.Pure
open Go.RowKit Go.Proofs.Ytcfeijdcanpflaa.H Go.Proofs.YtcfeijdcanpflaaW.PrintWords Go.Proofs.YtcfeijdcanpflaaW.PrintLast Go.Proofs.YtcfeijdcanpflaaW.PrintMore
theorem finds_j0 (t : S26) (p : Int) (hb : byteT t) (ht : tsize t ≤ 2000000) :
    Ev (fun m => glossatorlaw15_TreeFinds.j0 m p false t.f0 t.f1 t.f2 t.f3 t.f0 t.f1 t.f2 t.f3) true :=
  Ev.step (fun m => by rw [glossatorlaw15_TreeFinds.j0, if_neg (by simp)])
    (Ev.bind (at_ev t p hb ht) (Ev.bind (rat_ev t p hb ht) (Ev.bind (lsame_refl (atF t p) (by have := atF_length t p; omega))
      (Ev.congr (fun m => if_pos rfl) (Ev.bind (same_refl t ht) (Ev.now _))))))
theorem getS_size (ps : List Int) : ∀ (x : Int) (t : S26), tsize t ≤ 2000000 →
    Ev (fun n => glossatorref15_Same.f n (getS x t ps).1 (getS x t ps).2.1 (getS x t ps).2.2.1 (getS x t ps).2.2.2.1 (getS x t ps).1 (getS x t ps).2.1 (getS x t ps).2.2.1 (getS x t ps).2.2.2.1) true := by
  induction ps with
  | nil => intro x t h; exact same_refl t h
  | cons i ps ih =>
    intro x t h
    by_cases c : i < 0 ∨ i ≥ (t.f3.length : Int)
    · simp only [getS, if_pos c]
      exact same_refl ⟨0, 0, 0, []⟩ (by simp [tsize, lsize])
    · simp only [getS, if_neg c]
      exact ih _ _ (kid_size t i (by omega) (by omega) _ h).1
theorem getF_same (t : S26) (ps : List Int) (h : tsize t ≤ 2000000) :
    Ev (fun n => glossatorref15_Same.f n (getF t ps).1 (getF t ps).2.1 (getF t ps).2.2.1 (getF t ps).2.2.2.1 (getF t ps).1 (getF t ps).2.1 (getF t ps).2.2.1 (getF t ps).2.2.2.1) true := by
  unfold getF
  cases okB t with
  | true => exact getS_size ps 0 t h
  | false => exact same_refl ⟨0, 0, 0, []⟩ (by simp [tsize, lsize])
theorem finds_ev (l0 : List S62) (a1 : Int) (l2 : List Int) (hr : ∀ r ∈ l0, rowOk r) (hl : l2.length ≤ 1000000000000000) : Ev (fun m => glossatorlaw15_TreeFinds.f m l0 a1 l2) true := by
  refine Ev.congr (fun m => by unfold glossatorlaw15_TreeFinds.f; rfl) ?_
  rcases Grow_ev l0 hr with h | ⟨t, h, hb, ht⟩
  · exact Ev.bind h (Ev.congr (fun m => if_neg (by simp)) (Ev.now _))
  · refine Ev.bind h (Ev.congr (fun m => if_pos rfl) ?_)
    refine Ev.bind (twin_ev t (by omega)) (Ev.bind (get_ev t l2 hl (by omega)) (Ev.bind (rget_ev t l2 hl hb (by omega)) ?_))
    refine Ev.congr (fun m => if_neg (by simp)) (Ev.congr (fun m => if_neg (by simp)) (Ev.bind (getF_same t l2 (by omega)) (finds_j0 t a1 hb (by omega))))
theorem TreeFinds (l0 : List S62) (a1 : Int) (l2 : List Int) (hb0 : l0.length * 24 ≤ 140737488351232) (hp0 : ∀ t ∈ l0, (Lit.int .i64 t.f0).wf = true ∧ (Lit.int .u8 t.f1).wf = true ∧ (Lit.int .u8 t.f2).wf = true ∧ (Lit.int .i64 t.f3).wf = true) (h1 : (Lit.int .i64 a1).wf = true) (hb2 : l2.length * 8 ≤ 140737488351232) (hp2 : ∀ n ∈ l2, (Lit.int .i64 n).wf = true) :
    ∃ k, glossatorlaw15_TreeFinds.f k l0 a1 l2 = some true := by
  obtain ⟨K, hK⟩ := finds_ev l0 a1 l2 (fun r hr => by
    have := hp0 r hr
    exact ⟨bounds_u8 this.2.1, bounds_u8 this.2.2.1⟩) (by omega)
  exact ⟨K, hK K (Nat.le_refl _)⟩
end Go.Proofs.Ytcfeijdcanpflaa.Pure
