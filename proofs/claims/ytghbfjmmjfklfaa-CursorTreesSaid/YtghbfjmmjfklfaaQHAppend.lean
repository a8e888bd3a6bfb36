/- append of one element to a row of the call's own: the run, and what the row then is; at any world that holds the new element in a block of its own. -/
import Derived.Test.YtghbfjmmjfklfaaQHx0
import Derived.Maps.AppendAt
set_option linter.unusedVariables false
set_option linter.unusedSimpArgs false
namespace Go.Proofs.Ytghbfjmmjfklfaa.H
open Go.RowKit Go.Proofs.YtghbfjmmjfklfaaW.PrintWords Go.Proofs.YtghbfjmmjfklfaaW.PrintLast Go.Proofs.YtghbfjmmjfklfaaW.PrintMore
theorem append_elem {α : Type} (d : Kd α) (e t : Nat) {X Y : World} {base n cv bytes : Nat} {ok : Nat → Prop} {Av : Option Addr} {L : List α} {z : Value} (hR : d.R e X base ok (.slice Av n cv) L) (hbase : base ≤ X.heap.size) (hfresh : ∀ k, X.heap.size ≤ k → ok k)
    (ht : Try.prog.underlying t = some (.slice e)) (hinfo : (Try.prog.info? e).map (fun i => (i.zero, i.size, i.bytes)) = some (some z, d.sz, bytes)) (hzs : z.cells.size = d.sz) (hs0 : 0 < d.sz) (hb0 : 0 < bytes) (hl : (L.length + 1) * bytes ≤ 140737488355328)
    (hbY : Below X.heap.size X Y) (p : α) (cs : List Value) (hnew : Y.heap[X.heap.size]? = some (.cells cs.toArray e (0, 0))) (hp : d.M Y base (fun _ => False) p cs) (hcs : cs.length = d.sz) (h1 : ∀ u ∈ cs, u.oneCell' = true) :
    ∃ g cap w1, (Builtin.append_ #[t, t] t #[.slice Av n cv, .slice (some ⟨X.heap.size, 0, none⟩) 1 1]).run Try.prog Y = .ok (.slice (some ⟨g, 0, none⟩) (n + 1) cap) w1 ∧
      X.grownBy w1 (Value.slice Av n cv).ownBlock ∧ ((Value.slice Av n cv).ownBlock = some g ∨ X.heap.size ≤ g) ∧ base ≤ g ∧ n = L.length ∧
      d.R e w1 base ok (.slice (some ⟨g, 0, none⟩) (n + 1) cap) (L ++ [p]) := by
  obtain ⟨i0, hi, hzz⟩ := Option.map_eq_some_iff.1 hinfo
  simp only [Prod.mk.injEq] at hzz
  obtain ⟨hz0, hz1, hz2⟩ := hzz
  have hn : n = L.length := (Kd.R_reads' hR).1
  have hgY : X.grownBy Y none := ⟨hbY.os, hbY.tape, hbY.output, hbY.size, fun q hq _ => hbY.block q hq⟩
  have hRY := Kd.R_below hR hbY
  obtain ⟨h0, inner, hown, hr⟩ := hRY
  rw [← hn] at hown
  obtain ⟨v1, w1, hrun, hown1, hg1, hnil, hat⟩ := run_append_own_at (P := Try.prog) (w := Y) base t t e i0 z d.sz bytes ht hi hz0 hz1 hz2 hzs hs0 _ n inner hown ⟨X.heap.size, 0, none⟩ 1 1 cs (by rw [hcs, Nat.one_mul])
    (fun j u hu => by rw [show (⟨X.heap.size, 0, none⟩ : Addr).add j = ⟨X.heap.size, j, none⟩ by simp [Addr.add, eq_comm], blk_cell hnew j, List.getElem?_toArray]; exact hu) h1
    (by simp only [maxLen]; rw [hn]; have : L.length + 1 ≤ (L.length + 1) * bytes := Nat.le_mul_of_pos_right _ hb0; omega) (by rw [hn]; exact hl) (Nat.le_trans hbase hbY.size)
  obtain ⟨g, cap, cur, rfl, hbg, hcur, hncap, hcapm, hcs', htake⟩ : ∃ g cap cur, v1 = .slice (some ⟨g, 0, none⟩) (n + 1) cap ∧ base ≤ g ∧ w1.heap[g]? = some (.cells cur e (0, 0)) ∧ n + 1 ≤ cap ∧ cap ≤ maxLen ∧ cur.size = cap * d.sz ∧ cur.toList.take ((n + 1) * d.sz) = inner ++ cs := by
    rcases hown1.2 with ⟨_, h⟩ | h
    · omega
    · exact h
  have hat' : (Value.slice (some ⟨g, 0, none⟩) (n + 1) cap).ownBlock = (Value.slice Av n cv).ownBlock ∨ ∃ b, (Value.slice (some ⟨g, 0, none⟩) (n + 1) cap).ownBlock = some b ∧ Y.heap.size ≤ b := hat.imp_right (fun h => ⟨_, h, Nat.le_refl _⟩)
  have hgX : X.grownBy w1 (Value.slice Av n cv).ownBlock := World.grownBy.trans ⟨hbY.os, hbY.tape, hbY.output, hbY.size, fun q hq _ => hbY.block q hq⟩ hg1
  have hgo : (Value.slice Av n cv).ownBlock = some g ∨ X.heap.size ≤ g := by
    rcases hat' with h | ⟨b, h, hb⟩
    · exact .inl (by rw [← h]; rfl)
    · simp only [Value.ownBlock, Option.some.injEq] at h
      exact .inr (by have := hbY.size; omega)
  exact ⟨g, cap, w1, hrun, hgX, hgo, hbg, hn, Kd.R_appended h0 hr hp (fun _ h => h.elim) (fun q hq => hfresh q (Nat.le_trans hbY.size hq)) (by rw [← hn]; exact hown1) hg1 hat'⟩
end Go.Proofs.Ytghbfjmmjfklfaa.H
