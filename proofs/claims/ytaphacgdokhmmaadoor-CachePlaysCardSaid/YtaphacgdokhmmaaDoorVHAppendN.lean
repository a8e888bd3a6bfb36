/- append of one element to a row of the call's own whose elements are only read (Kd.N): HAppend's append_elem, over raw rows. -/
import Derived.Test.YtaphacgdokhmmaaDoorVHAppend
set_option linter.unusedVariables false
set_option linter.unusedSimpArgs false
namespace Go.Proofs.YtaphacgdokhmmaaDoor.H
open Go.RowKit Go.Proofs.YtaphacgdokhmmaaDoorW.PrintWords Go.Proofs.YtaphacgdokhmmaaDoorW.PrintLast Go.Proofs.YtaphacgdokhmmaaDoorW.PrintMore
theorem append_elemN {α : Type} (d : Kd α) (e t : Nat) {X Y : World} {base n cv bytes : Nat} {ok okp : Nat → Prop} {Av : Option Addr} {L : List α} {z : Value} (hN : d.N e X base ok (.slice Av n cv) L) (hbase : base ≤ X.heap.size) (hfresh : ∀ k, X.heap.size ≤ k → ok k)
    (ht : Tryd.prog.underlying t = some (.slice e)) (hinfo : (Tryd.prog.info? e).map (fun i => (i.zero, i.size, i.bytes)) = some (some z, d.sz, bytes)) (hzs : z.cells.size = d.sz) (hs0 : 0 < d.sz) (hb0 : 0 < bytes) (hl : (L.length + 1) * bytes ≤ 140737488355328)
    (hbY : Below X.heap.size X Y) (p : α) (cs : List Value) (hnew : Y.heap[X.heap.size]? = some (.cells cs.toArray e (0, 0))) (hp : d.FK X okp p cs) (hokp : ∀ k, okp k → ok k ∧ some k ≠ (Value.slice Av n cv).ownBlock) :
    ∃ g cap w1, (Builtin.append_ #[t, t] t #[.slice Av n cv, .slice (some ⟨X.heap.size, 0, none⟩) 1 1]).run Tryd.prog Y = .ok (.slice (some ⟨g, 0, none⟩) (n + 1) cap) w1 ∧
      X.grownBy w1 (Value.slice Av n cv).ownBlock ∧ ((Value.slice Av n cv).ownBlock = some g ∨ X.heap.size ≤ g) ∧ base ≤ g ∧ n = L.length ∧
      d.N e w1 base ok (.slice (some ⟨g, 0, none⟩) (n + 1) cap) (L ++ [p]) := by
  obtain ⟨h0, rows, hrl, hR, hf⟩ := hN
  have hc := Kd.FK_raw hp
  obtain ⟨g, cap, w1, hrun, hgr, hat, hbg, hn, hR1⟩ := append_elem (Kd.raw d.sz) e t (Kd.raw_any hR) hbase (fun _ _ => trivial) ht hinfo hzs hs0 hb0 (by rw [hrl]; exact hl) hbY cs cs hnew ⟨rfl, hc.2.1, hc.2.2⟩ hc.2.1 hc.2.2
  refine ⟨g, cap, w1, hrun, hgr, hat, hbg, by rw [hn, hrl], ?_⟩
  refine Kd.N_appended (news := [cs]) (ys := [p]) h0 hrl hf rfl (fun j x c hx hc' => ?_) hokp hfresh hR1 hgr (hat.imp (fun h => h.symm) (fun h => ⟨g, by simp [Value.ownBlock], h⟩))
  match j, hx, hc' with
  | 0, hx, hc' =>
    simp only [List.getElem?_cons_zero, Option.some.injEq] at hx hc'
    subst hx hc'
    exact hp
  | j + 1, hx, _ => simp at hx
#print axioms append_elemN
end Go.Proofs.YtaphacgdokhmmaaDoor.H
