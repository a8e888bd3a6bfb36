import Derived.Test.YtceddikbmbadlaaQHFaultsC
import Derived.Test.YtceddikbmbadlaaQHxglossatorlaw19tells
set_option linter.unusedVariables false
set_option linter.unusedSimpArgs false
namespace Go.Proofs.Ytceddikbmbadlaa.H
open Go.RowKit Go.Proofs.YtceddikbmbadlaaW.PrintWords Go.Proofs.YtceddikbmbadlaaW.PrintLast Go.Proofs.YtceddikbmbadlaaW.PrintMore
mutual
/-- Nothing is wanted but of missing leaves. -/
def wantT : S25 → Prop
  | ⟨k, w, wd, kids⟩ => (k ≠ 50 → w = 0) ∧ wantL kids
def wantL : List S25 → Prop
  | [] => True
  | t :: r => wantT t ∧ wantL r
end
mutual
theorem may_want : ∀ (t : S25) (at_ c : Int), (mayN t at_ c).2 = true → wantT t
  | ⟨k, w, wd, kids⟩, at_, c, h => by
    simp only [mayN] at h
    by_cases t1 : wrap64 (c + 1) > 1048576
    · rw [if_pos t1] at h; cases h
    rw [if_neg t1] at h
    by_cases t2 : at_ > 65536
    · rw [if_pos t2] at h; cases h
    rw [if_neg t2] at h
    by_cases t3 : k ≤ 50
    · rw [if_pos t3] at h
      obtain ⟨rfl, _, _, _, h4, _⟩ := leafB_facts h
      simp only [wantT, wantL, and_true]
      exact fun h => (h4 h).2
    rw [if_neg t3] at h
    by_cases t4 : k > 68
    · rw [if_pos t4] at h; cases h
    rw [if_neg t4] at h
    by_cases t5 : w = 0
    case neg => rw [if_pos (show w ≠ 0 from t5)] at h; cases h
    rw [if_neg (show ¬ (w ≠ 0) from fun h => h t5)] at h
    by_cases t6 : k = 51 ∧ at_ > 1
    · rw [if_pos t6] at h; cases h
    rw [if_neg t6] at h
    revert h
    cases hm : mayL kids at_ (wrap64 (c + 1)) 0 with
    | mk c' o =>
      cases o with
      | none => intro h; cases h
      | some s =>
        intro h
        simp only [wantT]
        exact ⟨fun _ => t5, mayL_want kids at_ _ 0 c' s hm⟩
theorem mayL_want : ∀ (l : List S25) (at_ c sum c' s : Int), mayL l at_ c sum = (c', some s) → wantL l
  | [], at_, c, sum, c', s, h => by simp only [wantL]
  | t :: r, at_, c, sum, c', s, h => by
    simp only [mayL] at h
    cases hm : mayN t (wrap64 (at_ + 1)) c with
    | mk c2 b =>
      rw [hm] at h
      cases b with
      | false => simp at h
      | true =>
        simp only at h
        simp only [wantL]
        exact ⟨may_want t _ c (by rw [hm]), mayL_want r at_ c2 _ c' s h⟩
end
mutual
theorem preT_want : ∀ (t : S25) (f d : Int) (x : S25 × Int × Int), x ∈ preT t f d → wantT t → wantT x.1
  | ⟨k, w, wd, l⟩, f, d, x, h, hw => by
    simp only [preT, List.mem_cons] at h
    rcases h with rfl | h
    · exact hw
    · exact preTL_want l f d x h (by simp only [wantT] at hw; exact hw.2)
theorem preTL_want : ∀ (l : List S25) (f d : Int) (x : S25 × Int × Int), x ∈ preTL l f d → wantL l → wantT x.1
  | [], f, d, x, h, _ => by simp [preTL] at h
  | t :: r, f, d, x, h, hw => by
    simp only [preTL, List.mem_append] at h
    simp only [wantL] at hw
    rcases h with h | h
    · exact preT_want t _ _ x h hw.1
    · exact preTL_want r _ _ x h hw.2
end
theorem allT_want {t : S25} {x : S25 × Int × Int} (h : x ∈ allT t) (hx : x.1.f0 ≠ 50) : x.1.f1 = 0 := by
  unfold allT at h
  cases ho : okB t with
  | false => rw [ho] at h; simp at h
  | true =>
    rw [ho, if_pos rfl] at h
    have hw := preT_want t 0 0 x h (may_want t 1 0 ho)
    obtain ⟨⟨k, w, wd, l⟩, f, d⟩ := x
    simp only [wantT] at hw
    exact hw.1 hx
theorem all_ev (t : S25) (hb : byteT t) (ht : tsize t ≤ 2000000) : Ev (fun m => glossatorref15_All.f m t.f0 t.f1 t.f2 t.f3) ((allT t).map seenS) := by
  have e : (⟨t.f0, t.f1, t.f2, t.f3⟩ : S25) = t := eta25 t
  refine Ev.congr (fun m => by unfold glossatorref15_All.f; rfl) (Ev.bind (a := okB t) (f := fun _ (r : Bool) => if r = true then (if tsize ⟨t.f0, t.f1, t.f2, t.f3⟩ ≤ 2000000 then some ((preT ⟨t.f0, t.f1, t.f2, t.f3⟩ 0 0).map seenS) else none) else some []) (by have := right_ref t.f0 t.f1 t.f2 t.f3 (by rw [e]; exact hb); rw [e] at this; exact this) (Ev.const ?_))
  rw [e, if_pos ht]
  unfold allT
  cases okB t <;> simp
theorem rd_midSeen (p : List S58) (t : S58) (r : List S58) : rd_T58 (p ++ t :: r) (p.length : Int) = t := by
  simp [rd_T58]
def faultD (x : S25 × Int × Int) : S44 := ⟨⟨x.2.1, wrap64 (x.2.1 + x.1.f2)⟩, x.1.f0, x.1.f1⟩
theorem rof_l0 (r : List (S25 × Int × Int)) : ∀ (q : List (S25 × Int × Int)) (out : List S44), q.length + r.length ≤ 2000000 → out.length + r.length ≤ 2000000 →
    Ev (fun m => glossatorref19_Of.l0 m out ((q ++ r).map seenS) (q.length : Int)) (out ++ (r.filter fun x => faultB x.1.f0).map faultD) := by
  induction r with
  | nil => intro q out h1 h2; exact Ev.step (f := fun _ => some out) (fun m => by rw [glossatorref19_Of.l0, if_neg (by simp)]) (by simpa using Ev.now out)
  | cons x r ih =>
    intro q out h1 h2
    simp only [List.length_cons] at h1 h2
    have hr : rd_T58 ((q ++ x :: r).map seenS) (q.length : Int) = seenS x := by
      rw [List.map_append, List.map_cons]
      have := rd_midSeen (q.map seenS) (seenS x) (r.map seenS)
      rwa [List.length_map] at this
    have hl : ((q ++ x :: r).map seenS).length = q.length + r.length + 1 := by simp; omega
    have hw : wrap64 ((q.length : Int) + 1) = ((q ++ [x]).length : Int) := by rw [wrap_id (by omega) (by omega)]; simp
    have e0 : (seenS x).f0.f0 = x.1.f0 := rfl
    cases c : faultB x.1.f0 with
    | true =>
      have h3 := ih (q ++ [x]) (out ++ [faultD x]) (by simp; omega) (by simp; omega)
      have e : out ++ [faultD x] ++ (r.filter fun x => faultB x.1.f0).map faultD = out ++ ((x :: r).filter fun x => faultB x.1.f0).map faultD := by simp [List.filter_cons, c]
      rw [List.append_assoc q, List.singleton_append, e] at h3
      refine Ev.step (fun m => ?_) h3
      rw [glossatorref19_Of.l0, if_pos (by rw [hl]; omega), if_pos (by omega), hr, hw]
      unfold faultB at c
      simp only [Bool.or_eq_true, beq_iff_eq] at c
      have hlt : out.length < 5864062014805 := by omega
      by_cases c50 : x.1.f0 = 50
      · rw [if_pos (by rw [e0]; exact c50), if_pos hlt]; rfl
      rw [if_neg (by rw [e0]; exact c50)]
      by_cases c68 : x.1.f0 = 68
      · rw [if_pos (by rw [e0]; exact c68), if_pos hlt]; rfl
      rw [if_neg (by rw [e0]; exact c68)]
      by_cases c5 : x.1.f0 = 5
      · rw [if_pos (by rw [e0]; exact c5), if_pos hlt]; rfl
      rw [if_neg (by rw [e0]; exact c5)]
      by_cases c9 : x.1.f0 = 9
      · rw [if_pos (by rw [e0]; exact c9), if_pos hlt]; rfl
      rw [if_neg (by rw [e0]; exact c9)]
      rw [if_pos (by rw [e0]; omega), if_pos hlt]; rfl
    | false =>
      have h3 := ih (q ++ [x]) out (by simp; omega) (by omega)
      have e : out ++ (r.filter fun x => faultB x.1.f0).map faultD = out ++ ((x :: r).filter fun x => faultB x.1.f0).map faultD := by simp [List.filter_cons, c]
      rw [List.append_assoc q, List.singleton_append, e] at h3
      refine Ev.step (fun m => ?_) h3
      unfold faultB at c
      simp only [Bool.or_eq_false_iff, beq_eq_false_iff_ne] at c
      rw [glossatorref19_Of.l0, if_pos (by rw [hl]; omega), if_pos (by omega), hr, hw, if_neg (by rw [e0]; exact c.1.1.1.1), if_neg (by rw [e0]; exact c.1.1.1.2), if_neg (by rw [e0]; exact c.1.1.2), if_neg (by rw [e0]; exact c.1.2), if_neg (by rw [e0]; exact c.2)]
theorem faults_same (t : S25) : ((allT t).filter fun x => faultB x.1.f0).map faultD = faultsS (allT t) := by
  unfold faultsS
  refine List.map_congr_left fun x hx => ?_
  rw [List.mem_filter] at hx
  unfold faultD faultS wantOf
  by_cases c : x.1.f0 = 50
  · rw [if_pos c]
  · rw [if_neg c, allT_want hx.1 c]
theorem rof_ev (t : S25) (hb : byteT t) (ht : tsize t ≤ 2000000) : Ev (fun m => glossatorref19_Of.f m t.f0 t.f1 t.f2 t.f3) (faultsS (allT t)) := by
  have hl := allT_length t
  have := rof_l0 (allT t) [] [] (by simp; omega) (by simp; omega)
  rw [List.nil_append, List.nil_append, faults_same] at this
  exact Ev.congr (fun m => by unfold glossatorref19_Of.f; rfl) (Ev.bind (all_ev t hb ht) this)
theorem of_prog (t : S25) (ht : tsize t ≤ 2000000) : faults_Of.f t.f0 t.f1 t.f2 t.f3 = some (faultsS (allT t)) := by
  unfold faults_Of.f
  rw [eta25, if_pos ht]
theorem fsame_l0 (r : List S44) : ∀ (q : List S44), q.length + r.length ≤ 2000000 → Ev (fun m => glossatorref19_Same.l0 m (q ++ r) (q ++ r) (q.length : Int)) true := by
  induction r with
  | nil => intro q h; exact Ev.step (f := fun _ => some true) (fun m => by rw [glossatorref19_Same.l0, if_neg (by simp)]) (Ev.now _)
  | cons x r ih =>
    intro q h
    simp only [List.length_cons] at h
    have h3 := ih (q ++ [x]) (by simp; omega)
    rw [List.append_assoc, List.singleton_append] at h3
    have hl : (q ++ x :: r).length = q.length + r.length + 1 := by simp; omega
    have hw : wrap64 ((q.length : Int) + 1) = ((q ++ [x]).length : Int) := by rw [wrap_id (by omega) (by omega)]; simp
    refine Ev.step (fun m => ?_) h3
    rw [glossatorref19_Same.l0, if_pos (by rw [hl]; omega), if_pos (by omega), if_pos (by rw [hl]; omega), if_neg (by simp), hw]
theorem fsame_refl (l : List S44) (h : l.length ≤ 2000000) : Ev (fun m => glossatorref19_Same.f m l l) true := by
  have := fsame_l0 l [] (by simpa using h)
  exact Ev.congr (fun m => by unfold glossatorref19_Same.f; rw [if_pos rfl]) (by simpa using this)
theorem faultsS_length (t : S25) : (faultsS (allT t)).length ≤ tsize t := by
  unfold faultsS
  rw [List.length_map]
  exact Nat.le_trans (List.length_filter_le _ _) (allT_length t)
section
variable (t : S25) (F : List S44)
theorem tells_l1 (x5 : Int) (d : Nat) : ∀ (x6 : List S44) (x7 : Nat), x6.length ≤ 2000000 → x7 ≤ x6.length → x6.length - x7 = d → Ev (fun m => glossatorlaw19_tells.l0 m F (wrap64 (x5 + 1)) t.f0 t.f1 t.f2 t.f3 t.f0 t.f1 t.f2 t.f3) true →
    Ev (fun m => glossatorlaw19_tells.l1 m F x5 x6 (x7 : Int) t.f0 t.f1 t.f2 t.f3 t.f0 t.f1 t.f2 t.f3) true := by
  induction d with
  | zero => intro x6 x7 h1 h2 h3 h; exact Ev.step (fun m => by rw [glossatorlaw19_tells.l1, if_neg (by omega)]) h
  | succ d ih =>
    intro x6 x7 h1 h2 h3 h
    refine Ev.step (fun m => by rw [glossatorlaw19_tells.l1, if_pos (by omega), if_pos (by omega), wrap_id (x := (x7 : Int) + 1) (by omega) (by omega)]) ?_
    have := ih (x6.set x7 ⟨⟨0, 0⟩, 99, 0⟩) (x7 + 1) (by simpa using h1) (by simp; omega) (by simp; omega) h
    rw [show ((x7 + 1 : Nat) : Int) = (x7 : Int) + 1 by omega] at this
    simpa using this
theorem tells_round (x5 : Int) (h5 : x5 < 2) (ht : tsize t ≤ 2000000) (hF : F = faultsS (allT t)) (h : Ev (fun m => glossatorlaw19_tells.l0 m F (wrap64 (x5 + 1)) t.f0 t.f1 t.f2 t.f3 t.f0 t.f1 t.f2 t.f3) true) :
    Ev (fun m => glossatorlaw19_tells.l0 m F x5 t.f0 t.f1 t.f2 t.f3 t.f0 t.f1 t.f2 t.f3) true := by
  have hl : F.length ≤ 2000000 := by rw [hF]; exact Nat.le_trans (faultsS_length t) ht
  refine Ev.step (fun m => by rw [glossatorlaw19_tells.l0, if_pos h5, of_prog t ht, ← hF, Option.bind_some]) ?_
  refine Ev.bind (fsame_refl F hl) (Ev.congr (fun m => if_pos rfl) (Ev.bind (same_refl t ht) ?_))
  refine Ev.step (fun m => by rw [glossatorlaw19_tells.j1, if_neg (by decide)]) ?_
  exact tells_l1 t F x5 F.length F 0 hl (Nat.zero_le _) (by omega) h
end
theorem tells_ev (t : S25) (hb : byteT t) (ht : tsize t ≤ 2000000) : Ev (fun m => glossatorlaw19_tells.f m t.f0 t.f1 t.f2 t.f3) true := by
  refine Ev.congr (fun m => by unfold glossatorlaw19_tells.f; rfl) (Ev.bind (twin_ev t ht) (Ev.bind (rof_ev t hb ht) ?_))
  refine tells_round t _ 0 (by decide) ht rfl (tells_round t _ _ (by unfold wrap64; omega) ht rfl ?_)
  exact Ev.step (f := fun _ => some true) (fun m => by rw [glossatorlaw19_tells.l0, if_neg (by unfold wrap64; omega)]) (Ev.now _)
end Go.Proofs.Ytceddikbmbadlaa.H
