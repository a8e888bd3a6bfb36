/- The plain laws beneath TreeWalks: all nodes, leaves, and whether tokens fit. -/
import Derived.Test.YtghbfjmmjfklfaaQHLeavesC
import Derived.Test.YtghbfjmmjfklfaaQHxtreeFits
import Derived.Test.YtghbfjmmjfklfaaQHxglossatorref15Fits
set_option linter.unusedVariables false
set_option linter.unusedSimpArgs false
namespace Go.Proofs.Ytghbfjmmjfklfaa.H
open Go.RowKit Go.Proofs.YtghbfjmmjfklfaaW.PrintWords Go.Proofs.YtghbfjmmjfklfaaW.PrintLast Go.Proofs.YtghbfjmmjfklfaaW.PrintMore
mutual
theorem preT_mem : ∀ (t : S27) (f d : Int) (x : S27 × Int × Int), x ∈ preT t f d → tsize x.1 ≤ tsize t ∧ (goodT t → goodT x.1)
  | ⟨k, w, wd, l⟩, f, d, x, h => by
    simp only [preT, List.mem_cons] at h
    rcases h with rfl | h
    · exact ⟨Nat.le_refl _, fun h => h⟩
    · have := preTL_mem l f d x h
      exact ⟨by simp only [tsize]; omega, fun hg => this.2 (by simp only [goodT] at hg; exact hg.2.2.2.2)⟩
theorem preTL_mem : ∀ (l : List S27) (f d : Int) (x : S27 × Int × Int), x ∈ preTL l f d → tsize x.1 ≤ lsize l ∧ (goodL l → goodT x.1)
  | [], f, d, x, h => by simp [preTL] at h
  | t :: r, f, d, x, h => by
    simp only [preTL, List.mem_append] at h
    rcases h with h | h
    · have := preT_mem t _ _ x h
      exact ⟨by simp only [lsize]; omega, fun hg => this.2 (by simp only [goodL] at hg; exact hg.1)⟩
    · have := preTL_mem r _ _ x h
      exact ⟨by simp only [lsize]; omega, fun hg => this.2 (by simp only [goodL] at hg; exact hg.2)⟩
end
theorem allT_mem {t : S27} {x : S27 × Int × Int} (h : x ∈ allT t) : okB t = true ∧ x ∈ preT t 0 0 := by
  unfold allT at h
  cases ho : okB t with
  | true => rw [ho, if_pos rfl] at h; exact ⟨rfl, h⟩
  | false => rw [ho] at h; simp at h
theorem allT_leaf {t : S27} (hb : byteT t) {x : S27 × Int × Int} (h : x ∈ allT t) (hx : x.1.f0 ≤ 50) : x.1.f3 = [] := by
  obtain ⟨ho, h⟩ := allT_mem h
  have hg := (preT_mem t 0 0 x h).2 (ok_good t hb ho)
  obtain ⟨⟨k, w, wd, l⟩, f, d⟩ := x
  simp only [goodT] at hg
  exact hg.2.1 hx
theorem Ev.all {α β : Type} {g : Nat → α → Option β} {r : α → β} : ∀ (l : List α), (∀ x ∈ l, Ev (fun n => g n x) (r x)) → ∃ K, ∀ k, K ≤ k → ∀ x ∈ l, g k x = some (r x)
  | [], _ => ⟨0, fun _ _ x h => by cases h⟩
  | y :: l, h => by
    obtain ⟨K1, h1⟩ := h y List.mem_cons_self
    obtain ⟨K2, h2⟩ := Ev.all l (fun x hx => h x (List.mem_cons_of_mem _ hx))
    refine ⟨max K1 K2, fun k hk x hx => ?_⟩
    rcases List.mem_cons.1 hx with rfl | hx
    · exact h1 k (by omega)
    · exact h2 k (by omega) x hx
theorem all_ev (t : S27) (hb : byteT t) (ht : tsize t ≤ 2000000) : Ev (fun m => glossatorref15_All.f m t.f0 t.f1 t.f2 t.f3) ((allT t).map seenS) := by
  have e : (⟨t.f0, t.f1, t.f2, t.f3⟩ : S27) = t := eta27 t
  refine Ev.congr (fun m => by unfold glossatorref15_All.f; rfl) (Ev.bind (a := okB t) (f := fun _ (r : Bool) => if r = true then (if tsize ⟨t.f0, t.f1, t.f2, t.f3⟩ ≤ 2000000 then some ((preT ⟨t.f0, t.f1, t.f2, t.f3⟩ 0 0).map seenS) else none) else some []) (by have := right_ref t.f0 t.f1 t.f2 t.f3 (by rw [e]; exact hb); rw [e] at this; exact this) (Ev.const ?_))
  rw [e, if_pos ht]
  unfold allT
  cases okB t <;> simp
theorem rd_mid45 (p : List S125) (t : S125) (r : List S125) : rd_T125 (p ++ t :: r) (p.length : Int) = t := by
  simp [rd_T125]
theorem rd_mid60 (p : List S39) (t : S39) (r : List S39) : rd_T39 (p ++ t :: r) (p.length : Int) = t := by
  simp [rd_T39]
theorem rleaves_l0 (r : List (S27 × Int × Int)) : ∀ (q : List (S27 × Int × Int)) (out : List S27), q.length + r.length ≤ 2000000 → out.length + r.length ≤ 2000000 →
    Ev (fun m => glossatorref15_Leaves.l0 m ((q ++ r).map seenS) out (q.length : Int)) (out ++ (r.filter fun x => decide (x.1.f0 ≤ 50)).map (·.1)) := by
  induction r with
  | nil => intro q out h1 h2; exact Ev.step (f := fun _ => some out) (fun m => by rw [glossatorref15_Leaves.l0, if_neg (by simp)]) (by simpa using Ev.now out)
  | cons x r ih =>
    intro q out h1 h2
    simp only [List.length_cons] at h1 h2
    have hr : rd_T125 ((q ++ x :: r).map seenS) (q.length : Int) = seenS x := by
      rw [List.map_append, List.map_cons]
      have := rd_mid45 (q.map seenS) (seenS x) (r.map seenS)
      rwa [List.length_map] at this
    have hl : ((q ++ x :: r).map seenS).length = q.length + r.length + 1 := by simp; omega
    have hw : wrap64 ((q.length : Int) + 1) = ((q ++ [x]).length : Int) := by rw [wrap_id (by omega) (by omega)]; simp
    by_cases c : x.1.f0 ≤ 50
    · have h3 := ih (q ++ [x]) (out ++ [x.1]) (by simp; omega) (by simp; omega)
      have e : out ++ [x.1] ++ (r.filter fun x => decide (x.1.f0 ≤ 50)).map (·.1) = out ++ ((x :: r).filter fun x => decide (x.1.f0 ≤ 50)).map (·.1) := by simp [List.filter_cons, c]
      rw [List.append_assoc q, List.singleton_append, e] at h3
      refine Ev.step (fun m => ?_) h3
      rw [glossatorref15_Leaves.l0, if_pos (by rw [hl]; omega), if_pos (by omega), hr, if_pos (by simpa [seenS] using c), if_pos (by omega), hw]
      simp only [seenS, eta27]
    · have h3 := ih (q ++ [x]) out (by simp; omega) (by omega)
      have e : out ++ (r.filter fun x => decide (x.1.f0 ≤ 50)).map (·.1) = out ++ ((x :: r).filter fun x => decide (x.1.f0 ≤ 50)).map (·.1) := by simp [List.filter_cons, c]
      rw [List.append_assoc q, List.singleton_append, e] at h3
      refine Ev.step (fun m => ?_) h3
      rw [glossatorref15_Leaves.l0, if_pos (by rw [hl]; omega), if_pos (by omega), hr, if_neg (by simpa [seenS] using c), hw]
theorem leaves_same {t : S27} (hb : byteT t) : ((allT t).filter fun x => decide (x.1.f0 ≤ 50)).map (·.1) = leavesS (allT t) := by
  unfold leavesS
  refine List.map_congr_left fun x hx => ?_
  rw [List.mem_filter, decide_eq_true_eq] at hx
  have := allT_leaf hb hx.1 hx.2
  rw [← this, eta27]
theorem rleaves_ev (t : S27) (hb : byteT t) (ht : tsize t ≤ 2000000) : Ev (fun m => glossatorref15_Leaves.f m t.f0 t.f1 t.f2 t.f3) (leavesS (allT t)) := by
  have hl := allT_length t
  have := rleaves_l0 (allT t) [] [] (by simp; omega) (by simp; omega)
  rw [List.nil_append, List.nil_append, leaves_same hb] at this
  exact Ev.congr (fun m => by unfold glossatorref15_Leaves.f; rfl) (Ev.bind (all_ev t hb ht) this)
theorem leaves_prog (t : S27) (ht : tsize t ≤ 2000000) : tree_Leaves.f t.f0 t.f1 t.f2 t.f3 = some (leavesS (allT t)) := by
  unfold tree_Leaves.f
  rw [eta27, if_pos ht]
def eqB : List S27 → List S39 → Bool
  | x :: r, y :: s => (x.f0 == y.f0 && x.f2 == y.f1) && eqB r s
  | _, _ => true
def filt (L : List S27) : List S27 := L.filter fun x => decide (x.f0 ≠ 50)
def fitsB (L : List S27) (l : List S39) : Bool := decide ((filt L).length = l.length) && eqB (filt L) l
theorem filt_skip {x : S27} {r : List S27} (c : x.f0 = 50) : filt (x :: r) = filt r := by simp [filt, List.filter_cons, c]
theorem filt_keep {x : S27} {r : List S27} (c : ¬ x.f0 = 50) : filt (x :: r) = x :: filt r := by simp [filt, List.filter_cons, c]
theorem fits_l0 (r : List S27) : ∀ (q : List S27) (p s : List S39), q.length + r.length ≤ 2000000 → (p ++ s).length ≤ 1000000000000000 →
    Ev (fun m => tree_Fits.l0 m (p ++ s) (p.length : Int) (q ++ r) ((q ++ r).length : Int) (q.length : Int)) (fitsB r s) := by
  induction r with
  | nil =>
    intro q p s h1 h2
    refine Ev.step (f := fun _ => some (fitsB [] s)) (fun m => ?_) (Ev.now _)
    rw [tree_Fits.l0, if_neg (by simp)]
    simp only [fitsB, filt, List.filter_nil, List.length_nil, eqB, Bool.and_true, List.length_append]
    congr 1
    cases s <;> simp <;> omega
  | cons x r ih =>
    intro q p s h1 h2
    simp only [List.length_cons] at h1
    have hr : rd_T27 (q ++ x :: r) (q.length : Int) = x := rd_mid27 q x r
    have hl : ((q ++ x :: r).length : Int) = q.length + r.length + 1 := by simp; omega
    have hl2 : ((q ++ [x]) ++ r).length = (q ++ x :: r).length := by simp
    have hw : wrap64 ((q.length : Int) + 1) = ((q ++ [x]).length : Int) := by rw [wrap_id (by omega) (by omega)]; simp
    by_cases c : x.f0 = 50
    · have h3 := ih (q ++ [x]) p s (by simp; omega) h2
      rw [hl2, List.append_assoc, List.singleton_append] at h3
      refine Ev.step (fun m => ?_) (show Ev _ (fitsB (x :: r) s) by unfold fitsB at h3 ⊢; rw [filt_skip c]; exact h3)
      rw [tree_Fits.l0, if_pos (by rw [hl]; omega), if_pos (by omega), if_pos (by rw [hl]; omega), hr, if_pos c, hw]
    · cases s with
      | nil =>
        refine Ev.step (f := fun _ => some false) (fun m => ?_) (by
          have : fitsB (x :: r) [] = false := by unfold fitsB; rw [filt_keep c]; simp
          rw [this]; exact Ev.now _)
        rw [tree_Fits.l0, if_pos (by rw [hl]; omega), if_pos (by omega), if_pos (by rw [hl]; omega), hr, if_neg c, if_pos (by simp)]
      | cons y s =>
        have hy : rd_T39 (p ++ y :: s) (p.length : Int) = y := rd_mid60 p y s
        have hp : (p ++ y :: s).length = p.length + s.length + 1 := by simp; omega
        have hwp : wrap64 ((p.length : Int) + 1) = ((p ++ [y]).length : Int) := by rw [wrap_id (by omega) (by rw [hp] at h2; omega)]; simp
        have e0 : fitsB (x :: r) (y :: s) = ((x.f0 == y.f0 && x.f2 == y.f1) && fitsB r s) := by
          unfold fitsB
          rw [filt_keep c]
          simp only [List.length_cons, eqB, Nat.add_right_cancel_iff]
          cases decide ((filt r).length = s.length) <;> cases (x.f0 == y.f0 && x.f2 == y.f1) <;> simp
        have hstep : ∀ m, tree_Fits.l0 (m + 1) (p ++ y :: s) (p.length : Int) (q ++ x :: r) ((q ++ x :: r).length : Int) (q.length : Int) = if y.f0 = x.f0 then (if y.f1 = x.f2 then tree_Fits.l0 m (p ++ y :: s) ((p ++ [y]).length : Int) (q ++ x :: r) ((q ++ x :: r).length : Int) ((q ++ [x]).length : Int) else some false) else some false := fun m => by
          rw [tree_Fits.l0, if_pos (by rw [hl]; omega), if_pos (by omega), if_pos (by rw [hl]; omega), hr, if_neg c, if_neg (by rw [hp]; omega), if_pos (by omega), if_pos (by rw [hp]; omega), hy, hw, hwp]
        by_cases c1 : y.f0 = x.f0
        · by_cases c2 : y.f1 = x.f2
          · have h3 := ih (q ++ [x]) (p ++ [y]) s (by simp; omega) (by rw [List.append_assoc, List.singleton_append]; exact h2)
            rw [hl2, List.append_assoc, List.singleton_append, List.append_assoc, List.singleton_append] at h3
            refine Ev.step (fun m => by rw [hstep, if_pos c1, if_pos c2]) ?_
            rw [e0, c1, c2]
            simpa using h3
          · refine Ev.step (f := fun _ => some false) (fun m => by rw [hstep, if_pos c1, if_neg c2]) ?_
            rw [e0, beq_eq_false_iff_ne.mpr (fun e => c2 e.symm)]
            simpa using Ev.now false
        · refine Ev.step (f := fun _ => some false) (fun m => by rw [hstep, if_neg c1]) ?_
          rw [e0, beq_eq_false_iff_ne.mpr (fun e => c1 e.symm)]
          simpa using Ev.now false
theorem rfits_l1 (r : List S27) : ∀ (q : List S27) (p s : List S39), p.length = q.length → r.length = s.length → q.length + r.length ≤ 2000000 →
    Ev (fun m => glossatorref15_Fits.l1 m (p ++ s) (q ++ r) (q.length : Int)) (eqB r s) := by
  induction r with
  | nil => intro q p s h1 h2 h3; exact Ev.step (f := fun _ => some true) (fun m => by rw [glossatorref15_Fits.l1, if_neg (by simp)]) (by cases s <;> simpa [eqB] using Ev.now true)
  | cons x r ih =>
    intro q p s h1 h2 h3
    simp only [List.length_cons] at h2 h3
    cases s with
    | nil => simp at h2
    | cons y s =>
      have hr : rd_T27 (q ++ x :: r) (q.length : Int) = x := rd_mid27 q x r
      have hy : rd_T39 (p ++ y :: s) (q.length : Int) = y := by rw [← h1]; exact rd_mid60 p y s
      have hl : ((q ++ x :: r).length : Int) = q.length + r.length + 1 := by simp; omega
      have hp : ((p ++ y :: s).length : Int) = q.length + s.length + 1 := by simp; omega
      have hw : wrap64 ((q.length : Int) + 1) = ((q ++ [x]).length : Int) := by rw [wrap_id (by omega) (by omega)]; simp
      have hstep : ∀ m, glossatorref15_Fits.l1 (m + 1) (p ++ y :: s) (q ++ x :: r) (q.length : Int) = if x.f0 = y.f0 then (if x.f2 = y.f1 then glossatorref15_Fits.l1 m (p ++ y :: s) (q ++ x :: r) ((q ++ [x]).length : Int) else some false) else some false := fun m => by
        rw [glossatorref15_Fits.l1, if_pos (by rw [hl]; omega), if_pos (by omega), if_pos (by rw [hp]; omega), hr, hy, hw]
      by_cases c1 : x.f0 = y.f0
      · by_cases c2 : x.f2 = y.f1
        · have h4 := ih (q ++ [x]) (p ++ [y]) s (by simp [h1]) (by simpa using h2) (by simp; omega)
          rw [List.append_assoc, List.singleton_append, List.append_assoc, List.singleton_append] at h4
          refine Ev.step (fun m => by rw [hstep, if_pos c1, if_pos c2]) ?_
          rw [eqB, c1, c2]
          simpa using h4
        · refine Ev.step (f := fun _ => some false) (fun m => by rw [hstep, if_pos c1, if_neg c2]) ?_
          rw [eqB, beq_eq_false_iff_ne.mpr c2]
          simpa using Ev.now false
      · refine Ev.step (f := fun _ => some false) (fun m => by rw [hstep, if_neg c1]) ?_
        rw [eqB, beq_eq_false_iff_ne.mpr c1]
        simpa using Ev.now false
theorem rfits_l0 (l : List S39) (r : List S27) : ∀ (q out : List S27), q.length + r.length ≤ 2000000 → out.length + r.length ≤ 2000000 →
    Ev (fun m => glossatorref15_Fits.l0 m l (q ++ r) out (q.length : Int)) (decide ((out ++ filt r).length = l.length) && eqB (out ++ filt r) l) := by
  induction r with
  | nil =>
    intro q out h1 h2
    have e : filt ([] : List S27) = [] := rfl
    simp only [e, List.append_nil]
    by_cases c : out.length = l.length
    · refine Ev.step (fun m => by rw [glossatorref15_Fits.l0, if_neg (by simp), if_pos (by rw [c])]) ?_
      have := rfits_l1 out [] [] l rfl c (by simp at h2 ⊢; omega)
      rw [decide_eq_true c, Bool.true_and]
      simpa using this
    · refine Ev.step (f := fun _ => some false) (fun m => by rw [glossatorref15_Fits.l0, if_neg (by simp), if_neg (by omega)]) ?_
      rw [decide_eq_false c, Bool.false_and]
      exact Ev.now _
  | cons x r ih =>
    intro q out h1 h2
    simp only [List.length_cons] at h1 h2
    have hr : rd_T27 (q ++ x :: r) (q.length : Int) = x := rd_mid27 q x r
    have hl : ((q ++ x :: r).length : Int) = q.length + r.length + 1 := by simp; omega
    have hw : wrap64 ((q.length : Int) + 1) = ((q ++ [x]).length : Int) := by rw [wrap_id (by omega) (by omega)]; simp
    by_cases c : x.f0 = 50
    · have h3 := ih (q ++ [x]) out (by simp; omega) (by omega)
      rw [List.append_assoc, List.singleton_append] at h3
      refine Ev.step (fun m => ?_) (by rw [filt_skip c]; exact h3)
      rw [glossatorref15_Fits.l0, if_pos (by rw [hl]; omega), if_pos (by omega), hr, if_pos c, hw]
    · have h3 := ih (q ++ [x]) (out ++ [x]) (by simp; omega) (by simp; omega)
      rw [List.append_assoc, List.singleton_append, List.append_assoc, List.singleton_append] at h3
      refine Ev.step (fun m => ?_) (by rw [filt_keep c]; exact h3)
      rw [glossatorref15_Fits.l0, if_pos (by rw [hl]; omega), if_pos (by omega), hr, if_neg c, if_pos (by omega), hw, eta27]
theorem leavesS_length (t : S27) : (leavesS (allT t)).length ≤ tsize t := by
  unfold leavesS
  rw [List.length_map]
  exact Nat.le_trans (List.length_filter_le _ _) (allT_length t)
def fitsT (t : S27) (l : List S39) : Bool := okB t && fitsB (leavesS (allT t)) l
theorem fits_ev (t : S27) (l : List S39) (ht : tsize t ≤ 2000000) (hl : l.length ≤ 1000000000000000) : Ev (fun m => tree_Fits.f m t.f0 t.f1 t.f2 t.f3 l) (fitsT t l) := by
  have h1 := leavesS_length t
  have h3 := fits_l0 (leavesS (allT t)) [] [] l (by simp; omega) (by simpa using hl)
  simp only [List.nil_append, List.length_nil] at h3
  refine Ev.congr (fun m => by unfold tree_Fits.f; rw [right_prog, Option.bind_some, leaves_prog t ht, eta27]) ?_
  unfold fitsT
  cases okB t with
  | false => exact Ev.congr (fun m => if_neg (by decide)) (Ev.now _)
  | true => exact Ev.congr (fun m => by rw [if_pos rfl, Option.bind_some]) (by simpa using h3)
theorem rfits_ev (t : S27) (l : List S39) (hb : byteT t) (ht : tsize t ≤ 2000000) : Ev (fun m => glossatorref15_Fits.f m t.f0 t.f1 t.f2 t.f3 l) (fitsT t l) := by
  have h1 := leavesS_length t
  have h3 := rfits_l0 l (leavesS (allT t)) [] [] (by simp; omega) (by simp; omega)
  simp only [List.nil_append, List.length_nil] at h3
  have hR := right_ref t.f0 t.f1 t.f2 t.f3 (by rw [eta27]; exact hb)
  rw [eta27] at hR
  refine Ev.congr (fun m => by unfold glossatorref15_Fits.f; rfl) (Ev.bind hR ?_)
  unfold fitsT
  cases okB t with
  | false => exact Ev.congr (fun m => if_neg (by decide)) (Ev.now _)
  | true => exact Ev.congr (fun m => if_pos rfl) (Ev.bind (rleaves_ev t hb ht) (by simpa [fitsB] using h3))
end Go.Proofs.Ytghbfjmmjfklfaa.H
