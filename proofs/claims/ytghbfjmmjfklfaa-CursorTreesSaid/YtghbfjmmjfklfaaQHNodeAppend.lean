/- A node without kids behind a row of nodes of the call's own: append of a zero node, then the node's cells stored. -/
import Derived.Test.YtghbfjmmjfklfaaQHTreeAt
import Derived.Maps.AppendAt
set_option linter.unusedVariables false
set_option linter.unusedSimpArgs false
namespace Go.Proofs.Ytghbfjmmjfklfaa.H
open Go.RowKit Go.Proofs.YtghbfjmmjfklfaaW.PrintWords Go.Proofs.YtghbfjmmjfklfaaW.PrintLast Go.Proofs.YtghbfjmmjfklfaaW.PrintMore
abbrev zeroN : Array Value := #[.int .u8 0, .int .u8 0, .int .i64 0, .slice none 0 0]
theorem append_node {X : World} {base n cv : Nat} {ok : Nat → Prop} {Av : Option Addr} {L : List S27} (hR : Kd.R k27 27 X base ok (.slice Av n cv) L) (hbase : base ≤ X.heap.size) (hfresh : ∀ k, X.heap.size ≤ k → ok k) (hl : L.length ≤ 2000000) (k w wd : Int) :
    ∃ g cap w1, (Builtin.append_ #[25, 25] 25 #[.slice Av n cv, .slice (some ⟨X.heap.size, 0, none⟩) 1 1]).run Try.prog ((X.alloc (.cells zeroN 27)).drew) = .ok (.slice (some ⟨g, 0, none⟩) (n + 1) cap) w1 ∧
      X.grownBy w1 (Value.slice Av n cv).ownBlock ∧ ((Value.slice Av n cv).ownBlock = some g ∨ X.heap.size ≤ g) ∧ base ≤ g ∧
      (∃ cur : Array Value, w1.heap[g]? = some (.cells cur 27 (0, 0)) ∧ (n + 1) * 4 ≤ cur.size) ∧
      w1.cell? ⟨g, n * 4, none⟩ = some (.int .u8 0) ∧ w1.cell? ⟨g, n * 4 + 1, none⟩ = some (.int .u8 0) ∧ w1.cell? ⟨g, n * 4 + 2, none⟩ = some (.int .i64 0) ∧ w1.cell? ⟨g, n * 4 + 3, none⟩ = some (.slice none 0 0) ∧
      Kd.R k27 27 (w1.setCells g (n * 4) [.int .u8 k, .int .u8 w, .int .i64 wd, .slice none 0 0]) base ok (.slice (some ⟨g, 0, none⟩) (n + 1) cap) (L ++ [⟨k, w, wd, []⟩]) := by
  obtain ⟨i0, hi, hzz⟩ := Option.map_eq_some_iff.1 info27
  simp only [Prod.mk.injEq] at hzz
  obtain ⟨hz0, hz1, hz2⟩ := hzz
  have hn : n = L.length := (Kd.R_reads' hR).1
  obtain ⟨Y, hY⟩ : ∃ Y, Y = (X.alloc (.cells zeroN 27)).drew := ⟨_, rfl⟩
  have hbY : Below X.heap.size X Y := by rw [hY]; exact below_drew (below_alloc (Below.refl _ _) _)
  have hgY : X.grownBy Y none := ⟨hbY.os, hbY.tape, hbY.output, hbY.size, fun q hq _ => hbY.block q hq⟩
  have hnew : Y.heap[X.heap.size]? = some (.cells zeroN 27 (0, 0)) := by rw [hY]; exact heap_alloc_new X _
  have hRY := Kd.R_below hR hbY
  have hltO := Kd.R_lt hR
  obtain ⟨h0, inner, hown, hr⟩ := hRY
  rw [← hn] at hown
  obtain ⟨v1, w1, hrun, hown1, hg1, hnil, hat⟩ := run_append_own_at (P := Try.prog) (w := Y) base 25 25 27 i0 _ 4 40 Try.underlying25 hi hz0 hz1 hz2 rfl (by decide) _ n inner hown ⟨X.heap.size, 0, none⟩ 1 1 zeroN.toList (by rfl)
    (fun j u hu => by rw [show (⟨X.heap.size, 0, none⟩ : Addr).add j = ⟨X.heap.size, j, none⟩ by simp [Addr.add, eq_comm], blk_cell hnew j, ← Array.getElem?_toList]; exact hu) (by intro u hu; simp at hu; rcases hu with rfl | rfl | rfl <;> rfl) (by simp only [maxLen]; omega) (by omega) (Nat.le_trans hbase hbY.size)
  rw [← hY]
  obtain ⟨g, cap, cur, rfl, hbg, hcur, hncap, hcapm, hcs, htake⟩ : ∃ g cap cur, v1 = .slice (some ⟨g, 0, none⟩) (n + 1) cap ∧ base ≤ g ∧ w1.heap[g]? = some (.cells cur 27 (0, 0)) ∧ n + 1 ≤ cap ∧ cap ≤ maxLen ∧ cur.size = cap * 4 ∧ cur.toList.take ((n + 1) * 4) = inner ++ zeroN.toList := by
    rcases hown1.2 with ⟨_, h⟩ | h
    · omega
    · exact h
  have hil : inner.length = n * 4 := hown.1
  have hcell : ∀ j (hj : j < 4), w1.cell? ⟨g, n * 4 + j, none⟩ = zeroN.toList[j]? := by
    intro j hj
    rw [blk_cell hcur, ← Array.getElem?_toList]
    have h1 : (cur.toList.take ((n + 1) * 4))[n * 4 + j]? = (inner ++ zeroN.toList)[n * 4 + j]? := by rw [htake]
    rw [List.getElem?_take_of_lt (by omega), List.getElem?_append_right (by omega), hil, show n * 4 + j - n * 4 = j by omega] at h1
    exact h1
  have hat' : (Value.slice (some ⟨g, 0, none⟩) (n + 1) cap).ownBlock = (Value.slice Av n cv).ownBlock ∨ ∃ b, (Value.slice (some ⟨g, 0, none⟩) (n + 1) cap).ownBlock = some b ∧ Y.heap.size ≤ b := hat.imp_right (fun h => ⟨_, h, Nat.le_refl _⟩)
  have hgX : X.grownBy w1 (Value.slice Av n cv).ownBlock := World.grownBy.trans ⟨hbY.os, hbY.tape, hbY.output, hbY.size, fun q hq _ => hbY.block q hq⟩ hg1
  have hgo : (Value.slice Av n cv).ownBlock = some g ∨ X.heap.size ≤ g := by
    rcases hat' with h | ⟨b, h, hb⟩
    · exact .inl (by rw [← h]; rfl)
    · simp only [Value.ownBlock, Option.some.injEq] at h
      exact .inr (by have := hbY.size; omega)
  have hzero : k27.M Y base (fun _ => False) z27 zeroN.toList := k27_mkM Y base _ z27 (Kd.R_nil _ _ _ _ _)
  have hRw : Kd.R k27 27 w1 base ok (.slice (some ⟨g, 0, none⟩) (n + 1) cap) (L ++ [z27]) := Kd.R_appended h0 hr hzero (fun _ h => h.elim) (fun q hq => hfresh q (Nat.le_trans hbY.size hq)) (by rw [← hn]; exact hown1) hg1 hat'
  have hseg := (Kd.R_seg hRw (n : Int) (by omega) (by omega) (c := zeroN.toList) (seg := [.int .u8 k, .int .u8 w, .int .i64 wd, .slice none 0 0]) (j := 0) rfl
    (fun j u hu => by
      have hj : j < 4 := by simpa using (List.getElem?_eq_some_iff.1 hu).1
      rw [Int.toNat_natCast, show k27.sz = 4 from rfl, hcell j hj]
      exact hu) (Nat.le_refl 4) (x' := ⟨k, w, wd, []⟩) (okp := fun _ => False) (k27_mkM w1 base _ ⟨k, w, wd, []⟩ (Kd.R_nil _ _ _ _ _)) (fun _ h => h.elim)).1
  rw [Int.toNat_natCast, show k27.sz = 4 from rfl, Nat.add_zero, hn, List.set_append_right _ _ (Nat.le_refl _), Nat.sub_self] at hseg
  rw [← hn] at hseg
  exact ⟨g, cap, w1, hrun, hgX, hgo, hbg, ⟨cur, hcur, by rw [hcs]; exact Nat.mul_le_mul_right 4 hncap⟩, hcell 0 (by omega), hcell 1 (by omega), hcell 2 (by omega), hcell 3 (by omega), hseg⟩
end Go.Proofs.Ytghbfjmmjfklfaa.H
