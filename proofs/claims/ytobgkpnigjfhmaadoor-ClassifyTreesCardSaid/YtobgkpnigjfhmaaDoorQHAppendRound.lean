/- What a round keeps that appends one element to a row in a variable of the call's own. -/
import Derived.Test.YtobgkpnigjfhmaaDoorQHTreeIter
import Derived.Test.YtobgkpnigjfhmaaDoorQHAppend
set_option linter.unusedVariables false
set_option linter.unusedSimpArgs false
namespace Go.Proofs.YtobgkpnigjfhmaaDoor.H
open Go.RowKit Go.Shelf Go.Proofs.YtobgkpnigjfhmaaDoorW.PrintWords Go.Proofs.YtobgkpnigjfhmaaDoorW.PrintLast Go.Proofs.YtobgkpnigjfhmaaDoorW.PrintMore
theorem kp_append {n0 B ob nn cv cap e g : Nat} {Wb w1 : World} {Av : Option Addr} {α : Type} {d : Kd α} {L : List α} {t : TypeId} (hob1 : n0 ≤ ob) (hob2 : ob < B) (hBW : B ≤ Wb.heap.size)
    (hov : Wb.heap[ob]? = some (.cells #[.slice Av nn cv] t (0, 0))) (hrow : d.R e Wb n0 (fun k => k ≠ ob) (.slice Av nn cv) L)
    (hg : Wb.grownBy w1 (Value.slice Av nn cv).ownBlock) (hgo : (Value.slice Av nn cv).ownBlock = some g ∨ Wb.heap.size ≤ g) :
    KeepsFrom B Wb (w1.setCell ⟨ob, 0, none⟩ (.slice (some ⟨g, 0, none⟩) (nn + 1) cap)) ∧ Kp n0 B [ob] Wb (w1.setCell ⟨ob, 0, none⟩ (.slice (some ⟨g, 0, none⟩) (nn + 1) cap)) ∧ Below n0 Wb (w1.setCell ⟨ob, 0, none⟩ (.slice (some ⟨g, 0, none⟩) (nn + 1) cap)) ∧
      (w1.setCell ⟨ob, 0, none⟩ (.slice (some ⟨g, 0, none⟩) (nn + 1) cap)).heap[ob]? = some (.cells #[.slice (some ⟨g, 0, none⟩) (nn + 1) cap] t (0, 0)) ∧ Wb.heap.size ≤ (w1.setCell ⟨ob, 0, none⟩ (.slice (some ⟨g, 0, none⟩) (nn + 1) cap)).heap.size ∧
      (∀ {v' : Value} {L' : List α}, d.R e w1 n0 (fun k => k ≠ ob) v' L' → d.R e (w1.setCell ⟨ob, 0, none⟩ (.slice (some ⟨g, 0, none⟩) (nn + 1) cap)) n0 (fun k => k ≠ ob) v' L') := by
  obtain ⟨WF, hWF⟩ : ∃ WF, WF = w1.setCell ⟨ob, 0, none⟩ (.slice (some ⟨g, 0, none⟩) (nn + 1) cap) := ⟨_, rfl⟩
  rw [← hWF]
  have hsz : WF.heap.size = w1.heap.size := by rw [hWF]; simp
  have hlo := blk_lt hov
  have hno : (Value.slice Av nn cv).ownBlock ≠ some ob := fun e => hrow.1 _ e rfl
  have hoth : ∀ q, q ≠ ob → WF.heap[q]? = w1.heap[q]? := fun q hq => by rw [hWF]; exact Below.heap_setCell _ _ _ _ hq
  have hov1 : w1.heap[ob]? = some (.cells #[.slice Av nn cv] t (0, 0)) := (hg.block _ hlo (fun e => hno e.symm)).trans hov
  have hovF : WF.heap[ob]? = some (.cells #[.slice (some ⟨g, 0, none⟩) (nn + 1) cap] t (0, 0)) := by rw [hWF]; exact blk_set hov1 0 _
  have hown : ∀ k, (Value.slice Av nn cv).ownBlock = some k → ∃ q cells, Wb.heap[k]? = some (.cells cells q (0, 0)) := fun k hk => by
    obtain ⟨_, _, _, q, _, cells, hc⟩ := (Kd.R_bound hrow).1 k hk
    exact ⟨q, cells, hc⟩
  have hgen : ∀ k o, Wb.heap[k]? = some o → (Value.slice Av nn cv).ownBlock ≠ some k → k ≠ ob → WF.heap[k]? = some o := fun k o hk hko hkv => by
    rw [hoth k hkv, hg.block k (Array.getElem?_eq_some_iff.1 hk).1 (fun e => hko e.symm), hk]
  have hnc : ∀ k o, B ≤ k → o.isCells = false → Wb.heap[k]? = some o → WF.heap[k]? = some o := fun k o hk hc ho => by
    refine hgen k o ho (fun e => ?_) (by omega)
    obtain ⟨q, cells, h⟩ := hown k e
    rw [h] at ho
    cases ho
    cases hc
  have hbase : ∀ k, (Value.slice Av nn cv).ownBlock = some k → n0 ≤ k := fun k hk => ((Kd.R_bound hrow).1 k hk).2.1
  have hlow : Below n0 Wb WF := by
    rw [hWF]
    exact ((Below.refl _ _).grown hg (by omega) hbase).setCell hob1 _
  have hsg := hg.size
  have hfrX : ∀ k, (Value.slice Av nn cv).ownBlock = some k → fr [ob] Wb k := fun k hk => ⟨_, List.mem_singleton.2 rfl, _, by rw [blk_cell hov 0]; rfl, hk⟩
  refine ⟨⟨by omega, fun k o hk ho hc => hnc k o hk hc ho⟩, ⟨hlow, fun k cs t' fz hk hnf hcs => ?_, fun k hf => ?_, fun k o hk hc ho => hnc k o (by omega) hc ho⟩, hlow, hovF, by omega, fun {v' L'} h => ?_⟩
  · exact hgen k _ hcs (fun e => hnf (hfrX k e)) (by omega)
  · obtain ⟨q, hq, u, hu', ho⟩ := hf
    rw [List.mem_singleton] at hq
    subst hq
    rw [blk_cell hovF 0] at hu'
    simp at hu'
    subst hu'
    simp only [Value.ownBlock, Option.some.injEq] at ho
    subst ho
    rcases hgo with h | h
    · exact .inl (hfrX g h)
    · exact .inr h
  · exact Kd.R_step h (fun k hk hlt => hoth k hk)
end Go.Proofs.YtobgkpnigjfhmaaDoor.H
