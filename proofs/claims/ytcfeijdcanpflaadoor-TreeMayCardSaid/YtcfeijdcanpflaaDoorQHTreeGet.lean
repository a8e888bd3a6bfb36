/- What tree.Get and tree.At answer, of lists alone. -/
import Derived.Test.YtcfeijdcanpflaaDoorQHTreeGrow
import Derived.Test.YtcfeijdcanpflaaDoorQHxtreeGet
import Derived.Test.YtcfeijdcanpflaaDoorQHxtreeAt
set_option linter.unusedVariables false
set_option linter.unusedSimpArgs false
namespace Go.Proofs.YtcfeijdcanpflaaDoor.H
open Go.RowKit Go.Proofs.YtcfeijdcanpflaaDoorW.PrintWords Go.Proofs.YtcfeijdcanpflaaDoorW.PrintLast Go.Proofs.YtcfeijdcanpflaaDoorW.PrintMore
abbrev GetR := Int × Int × Int × List S25 × Int × Int × Bool
def sumFrom (x : Int) : List S25 → Int
  | [] => x
  | t :: r => sumFrom (wrap64 (x + t.f2)) r
def getS : Int → S25 → List Int → GetR
  | x, t, [] => (t.f0, t.f1, t.f2, t.f3, x, wrap64 (x + t.f2), true)
  | x, t, i :: p => if i < 0 ∨ i ≥ (t.f3.length : Int) then (0, 0, 0, [], 0, 0, false) else getS (sumFrom x (t.f3.take i.toNat)) (rd_T25 t.f3 i) p
theorem rd_app (p : List Int) (i : Int) (r : List Int) : rd (p ++ i :: r) (p.length : Int) = i := by
  simp [rd, List.getD_eq_getElem?_getD]
section
variable (path : List Int)
theorem get_l1 (l : List S25) : ∀ (q : List S25) (x i n idx k w wd : Int) (kids : List S25) (r : GetR), q.length + l.length ≤ 2000000 → 0 ≤ i → i < (kids.length : Int) →
    Ev (fun m => tree_Get.l0 m (sumFrom x l) path n (wrap64 (idx + 1)) (rd_T25 kids i).f0 (rd_T25 kids i).f1 (rd_T25 kids i).f2 (rd_T25 kids i).f3) r →
    Ev (fun m => tree_Get.l1 m x i path n idx (q ++ l) ((q ++ l).length : Int) (q.length : Int) k w wd kids) r := by
  induction l with
  | nil =>
    intro q x i n idx k w wd kids r hq h0 h1 h
    refine Ev.step (fun m => ?_) h
    rw [tree_Get.l1, if_neg (by simp), if_pos h0, if_pos h1]
    rfl
  | cons t l ih =>
    intro q x i n idx k w wd kids r hq h0 h1 h
    have h2 := ih (q ++ [t]) (wrap64 (x + t.f2)) i n idx k w wd kids r (by simp at hq ⊢; omega) h0 h1 h
    rw [show ((q ++ [t]).length : Int) = (q.length : Int) + 1 by simp, List.append_assoc, List.singleton_append] at h2
    refine Ev.step (fun m => ?_) h2
    simp only [List.length_cons] at hq
    rw [tree_Get.l1, if_pos (by simp; omega), if_pos (by omega), if_pos (by simp; omega), rd_mid25, wrap_id (x := (q.length : Int) + 1) (by omega) (by omega)]
theorem get_l0 (ps : List Int) : ∀ (pp : List Int) (x : Int) (t : S25), path = pp ++ ps → path.length ≤ 1000000000000000 → tsize t ≤ 2000000 →
    Ev (fun m => tree_Get.l0 m x path (path.length : Int) (pp.length : Int) t.f0 t.f1 t.f2 t.f3) (getS x t ps) := by
  induction ps with
  | nil =>
    intro pp x t hp hl ht
    refine Ev.step (f := fun _ => some (getS x t [])) (fun m => ?_) (Ev.now _)
    rw [tree_Get.l0, if_neg (by rw [hp]; simp)]
    rfl
  | cons i ps ih =>
    intro pp x t hp hl ht
    have hlen : path.length = pp.length + ps.length + 1 := by rw [hp]; simp; omega
    have hrd : rd path (pp.length : Int) = i := by rw [hp]; exact rd_app pp i ps
    have step : ∀ m, tree_Get.l0 (m + 1) x path (path.length : Int) (pp.length : Int) t.f0 t.f1 t.f2 t.f3 = if i < 0 then tree_Get.j1 m x i path (path.length : Int) (pp.length : Int) true t.f0 t.f1 t.f2 t.f3 else tree_Get.j1 m x i path (path.length : Int) (pp.length : Int) (decide (i ≥ (t.f3.length : Int))) t.f0 t.f1 t.f2 t.f3 := by
      intro m
      rw [tree_Get.l0, if_pos (by omega), if_pos (by omega), if_pos (by omega), hrd]
    have bad : Ev (fun m => tree_Get.j1 m x i path (path.length : Int) (pp.length : Int) true t.f0 t.f1 t.f2 t.f3) (0, 0, 0, [], 0, 0, false) :=
      Ev.step (f := fun _ => some (0, 0, 0, [], 0, 0, false)) (fun m => by rw [tree_Get.j1, if_pos rfl]) (Ev.now _)
    by_cases h0 : i < 0
    · simp only [getS, if_pos (show i < 0 ∨ i ≥ (t.f3.length : Int) from .inl h0)]
      exact Ev.step (fun m => by rw [step m, if_pos h0]) bad
    · by_cases h1 : i ≥ (t.f3.length : Int)
      · simp only [getS, if_pos (show i < 0 ∨ i ≥ (t.f3.length : Int) from .inr h1)]
        exact Ev.step (fun m => by rw [step m, if_neg h0, decide_eq_true h1]) bad
      · simp only [getS, if_neg (show ¬ (i < 0 ∨ i ≥ (t.f3.length : Int)) by omega)]
        have hts : tsize (rd_T25 t.f3 i) ≤ 2000000 ∧ t.f3.length ≤ 2000000 := by
          obtain ⟨a, b, c, kids⟩ := t
          simp only at h1 ⊢
          simp only [tsize] at ht
          obtain ⟨j, rfl⟩ := Int.eq_ofNat_of_zero_le (Int.not_lt.1 h0)
          have hj : j < kids.length := by omega
          rw [rd_at25 kids j hj]
          have key : ∀ (l : List S25) (y : S25), y ∈ l → tsize y ≤ lsize l := by
            intro l
            induction l with
            | nil => intro y hy; cases hy
            | cons z l ih =>
              intro y hy
              simp only [lsize]
              rcases List.mem_cons.1 hy with rfl | hy
              · omega
              · have := ih y hy; omega
          have := key kids kids[j] (List.getElem_mem hj)
          have := length_lsize kids
          omega
        have h2 := ih (pp ++ [i]) (sumFrom x (t.f3.take i.toNat)) (rd_T25 t.f3 i) (by rw [hp]; simp) hl hts.1
        have hw : wrap64 ((pp.length : Int) + 1) = ((pp ++ [i]).length : Int) := by rw [wrap_id (by omega) (by omega)]; simp
        rw [← hw] at h2
        have h3 := get_l1 path (t.f3.take i.toNat) [] x i (path.length : Int) (pp.length : Int) t.f0 t.f1 t.f2 t.f3 _ (by simp only [List.length_nil, List.length_take]; omega) (by omega) (by omega) h2
        rw [List.nil_append] at h3
        refine Ev.step (fun m => by rw [step m, if_neg h0, decide_eq_false h1]) (Ev.step (fun m => ?_) h3)
        rw [tree_Get.j1, if_neg (by simp), if_pos (by omega), if_pos (by omega), Option.bind_some]
        rfl
end
def getF (t : S25) (path : List Int) : GetR := if okB t then getS 0 t path else (0, 0, 0, [], 0, 0, false)
theorem get_ev (t : S25) (path : List Int) (hl : path.length ≤ 1000000000000000) (ht : tsize t ≤ 2000000) : Ev (fun m => tree_Get.f m t.f0 t.f1 t.f2 t.f3 path) (getF t path) := by
  have e : okB ⟨t.f0, t.f1, t.f2, t.f3⟩ = okB t := by rw [eta25]
  unfold getF
  cases h : okB t with
  | true =>
    exact Ev.congr (fun m => by unfold tree_Get.f; rw [right_prog, e, h, Option.bind_some, if_pos rfl]; rfl) (get_l0 path path [] 0 t rfl hl ht)
  | false =>
    exact Ev.congr (f := fun _ => some (0, 0, 0, [], 0, 0, false)) (fun m => by unfold tree_Get.f; rw [right_prog, e, h, Option.bind_some, if_neg (by simp)]) (Ev.now _)
mutual
/-- The path to a place, told from where the tree begins. -/
def atT : S25 → Int → List Int
  | ⟨_, _, _, kids⟩, p => atL kids 0 p
def atL : List S25 → Int → Int → List Int
  | [], _, _ => []
  | t :: r, i, p => if p ≥ t.f2 then atL r (i + 1) (p - t.f2) else i :: atT t p
end
def atF (t : S25) (p : Int) : List Int := if okB t = true ∧ 0 ≤ p ∧ p < t.f2 then atT t p else []
end Go.Proofs.YtcfeijdcanpflaaDoor.H
