/- Three rows of a law's own beside a cache: texts, texts, values as they are. What a round keeps of them. -/
import Derived.Test.YtaphacgdokhmmaaDoorVHCacheApart
set_option linter.unusedVariables false
set_option linter.unusedSimpArgs false
namespace Go.Proofs.YtaphacgdokhmmaaDoor.H
open Go.RowKit Go.Shelf Go.Proofs.YtaphacgdokhmmaaDoorW.PrintWords Go.Proofs.YtaphacgdokhmmaaDoorW.PrintLast Go.Proofs.YtaphacgdokhmmaaDoorW.PrintMore
section
variable {α : Type} {d : Kd α} {e base : Nat} {W W' : World} {Fp Fp' : Nat → Prop} {v : Value} {L : List α}
theorem row_keep (hE : d.E = []) (h : d.R e W base (Out Fp W) v L) (hk : ∀ q, v.ownBlock = some q → Out Fp W q → Out Fp' W' q ∧ W'.heap[q]? = W.heap[q]?) : d.R e W' base (Out Fp' W') v L :=
  Kd.R_mono (Kd.R_step (Kd.R_tight hE h) (fun q hq _ => (hk q hq.symm (h.1 q hq.symm)).2)) (fun q hq => (hk q hq.symm (h.1 q hq.symm)).1)
theorem row_type (h : d.R e W base (Out Fp W) v L) {nb t : Nat} {cs : Array Value} (hnb : W.heap[nb]? = some (.cells cs t (0, 0))) (hne : t ≠ e) : v.ownBlock ≠ some nb := fun hk => by
  obtain ⟨cells, hc⟩ := own_typed h.2.choose_spec.1 nb hk
  rw [hnb] at hc
  injection hc with hc
  injection hc with _ hc
  exact hne hc
end
section
variable {W0 W W' : World} {Fp Fp' : Nat → Prop} {b n n' : Nat} {M M' : ByteArray → List Res}
theorem CW.grown (h : CW W0 W Fp b n M) {row : Option Nat} (hg : W.grownBy W' row) (hr : ∀ k, row = some k → ¬ Fp k ∧ W0.heap.size ≤ k) : CW W0 W' Fp b n M :=
  ⟨h.ci.keep (fun q hq hl => hg.block q hl (fun e => (hr q e.symm).1 hq)), fun q hq => Nat.lt_of_lt_of_le (h.lt q hq) hg.size, h.lo,
    ⟨hg.os.trans h.bel.os, hg.tape.trans h.bel.tape, hg.output.trans h.bel.output, Nat.le_trans h.bel.size hg.size, fun q hq => (hg.block q (Nat.lt_of_lt_of_le hq h.bel.size) (fun e => by have := (hr q e.symm).2; omega)).trans (h.bel.block q hq)⟩⟩
structure LR (W0 W : World) (Fp : Nat → Prop) (b n : Nat) (M : ByteArray → List Res) (vi vm vd : Value) (ids mine : List ByteArray) (dat : List (List Value)) : Prop where
  cw : CW W0 W Fp b n M
  ri : Kd.R Kd.string 9 W W0.heap.size (Out Fp W) vi ids
  rm : Kd.R Kd.string 9 W W0.heap.size (Out Fp W) vm mine
  rd : Kd.R (Kd.raw 1) 34 W W0.heap.size (Out Fp W) vd dat
  im : ∀ k, vi.ownBlock = some k → vm.ownBlock ≠ some k
variable {vi vm vd : Value} {ids mine : List ByteArray} {dat : List (List Value)}
theorem LR.id (h : LR W0 W Fp b n M vi vm vd ids mine dat) : ∀ k, vi.ownBlock = some k → vd.ownBlock ≠ some k := fun k hk => by
  obtain ⟨cells, hc⟩ := own_typed h.ri.2.choose_spec.1 k hk
  exact row_type h.rd hc (by decide)
theorem LR.md (h : LR W0 W Fp b n M vi vm vd ids mine dat) : ∀ k, vm.ownBlock = some k → vd.ownBlock ≠ some k := fun k hk => by
  obtain ⟨cells, hc⟩ := own_typed h.rm.2.choose_spec.1 k hk
  exact row_type h.rd hc (by decide)
theorem LR.start (h : CW W0 W Fp b n M) : LR W0 W Fp b n M (.slice none 0 0) (.slice none 0 0) (.slice none 0 0) [] [] [] :=
  ⟨h, Kd.R_nil _ _ _ _ _, Kd.R_nil _ _ _ _ _, Kd.R_nil _ _ _ _ _, fun k hk => by simp [Value.ownBlock] at hk⟩
theorem LR.nil (h : LR W0 W Fp b n M vi vm vd ids mine dat) : LR W0 W Fp b n M vi (.slice none 0 0) (.slice none 0 0) ids [] [] :=
  ⟨h.cw, h.ri, Kd.R_nil _ _ _ _ _, Kd.R_nil _ _ _ _ _, fun k _ => by simp [Value.ownBlock]⟩
theorem LR.move (h : LR W0 W Fp b n M vi vm vd ids mine dat) (c : CW W0 W' Fp' b n' M') (hk : Keep Fp W Fp' W') : LR W0 W' Fp' b n' M' vi vm vd ids mine dat :=
  ⟨c, row_keep rfl h.ri (fun q _ ho => hk q ho), row_keep rfl h.rm (fun q _ ho => hk q ho), row_keep rfl h.rd (fun q _ ho => hk q ho), h.im⟩
theorem LR.below (h : LR W0 W Fp b n M vi vm vd ids mine dat) (hb : Below W.heap.size W W') : LR W0 W' Fp b n M vi vm vd ids mine dat := h.move (h.cw.below hb) (keep_below hb)
end
structure Mod (M : ByteArray → List Res) (uri : ByteArray) (n : Nat) (ids : List ByteArray) (ml : List Res) : Prop where
  mu : M uri = ml.drop (ml.length - 4)
  eq : ids = (List.range n).map (fun k : Nat => dec ((k : Int) + 1))
  few : ml.length ≤ n
  mi : ∀ r ∈ ml, ∃ k, k < n ∧ r.1 = dec ((k : Int) + 1)
  pw : ml.Pairwise (fun a b => (a.1.toList == b.1.toList) = false)
theorem dec_ne1 {m n : Nat} (h : m ≠ n) : ((dec ((m : Int) + 1)).toList == (dec ((n : Int) + 1)).toList) = false := by
  have := dec_ne (m := m + 1) (n := n + 1) (by omega)
  push_cast at this
  exact this
section
variable {M : ByteArray → List Res} {uri : ByteArray} {n : Nat} {ids : List ByteArray} {ml : List Res}
theorem Mod.start : Mod (fun _ => []) uri 0 [] [] := ⟨rfl, rfl, Nat.le_refl _, by simp, List.Pairwise.nil⟩
theorem Mod.len (h : Mod M uri n ids ml) : ids.length = n := by rw [h.eq]; simp
theorem last4_drop (l : List Res) (r : Res) : last4 (l.drop (l.length - 4) ++ [r]) = (l ++ [r]).drop ((l ++ [r]).length - 4) := by
  unfold last4
  by_cases c : 4 ≤ l.length
  · rw [if_pos (by simp; omega), List.length_append, List.length_singleton, List.drop_append_of_le_length (by simp; omega), List.drop_append_of_le_length (by omega), List.drop_drop]
    congr 2
    omega
  · rw [if_neg (by simp; omega), show l.length - 4 = 0 by omega, show (l ++ [r]).length - 4 = 0 by simp; omega]
    rfl
theorem Mod.at (h : Mod M uri n ids ml) {k : Nat} (hk : k < n) : ids.getD k ByteArray.empty = dec ((k : Int) + 1) := by
  rw [h.eq, List.getD_eq_getElem?_getD, List.getElem?_map, List.getElem?_range hk]
  rfl
theorem Mod.more (h : Mod M uri n ids ml) : ids ++ [dec ((n : Int) + 1)] = (List.range (n + 1)).map (fun k : Nat => dec ((k : Int) + 1)) := by
  rw [h.eq, List.range_succ, List.map_append]
  rfl
theorem Mod.put (h : Mod M uri n ids ml) (l : List Int) : Mod (putM M uri (dec ((n : Int) + 1), l)) uri (n + 1) (ids ++ [dec ((n : Int) + 1)]) (ml ++ [(dec ((n : Int) + 1), l)]) := by
  refine ⟨?_, h.more, by have := h.few; simp; omega, fun r hr => ?_, ?_⟩
  · unfold putM
    rw [if_pos rfl, h.mu]
    exact last4_drop _ _
  · rcases List.mem_append.1 hr with h1 | h1
    · obtain ⟨k, h2, h3⟩ := h.mi r h1
      exact ⟨k, by omega, h3⟩
    · rw [List.mem_singleton.1 h1]
      exact ⟨n, by omega, rfl⟩
  · rw [List.pairwise_append]
    refine ⟨h.pw, List.pairwise_singleton _ _, fun a ha b hb => ?_⟩
    obtain ⟨k, h2, h3⟩ := h.mi a ha
    rw [List.mem_singleton.1 hb, h3]
    exact dec_ne1 (by omega)
theorem Mod.other (h : Mod M uri n ids ml) {u : ByteArray} (hu : ¬ uri = u) (r : Res) : Mod (putM M u r) uri (n + 1) (ids ++ [dec ((n : Int) + 1)]) ml :=
  ⟨by unfold putM; rw [if_neg hu]; exact h.mu, h.more, by have := h.few; omega, fun r hr => by obtain ⟨k, h2, h3⟩ := h.mi r hr; exact ⟨k, by omega, h3⟩, h.pw⟩
theorem Mod.drop (h : Mod M uri n ids ml) : Mod (dropM M uri) uri n ids [] :=
  ⟨by unfold dropM; rw [if_pos rfl]; rfl, h.eq, Nat.zero_le _, by simp, List.Pairwise.nil⟩
end
def DatOk (W0 : World) (dat : List (List Value)) (ml : List Res) : Prop := dat.length = ml.length ∧ ∀ (j : Nat) (r : Res), ml[j]? = some r → ∃ A c, dat[j]? = some [.slice A r.2.length c] ∧ r.2.length ≤ c ∧ r.2.length ≤ 20000 ∧ Kd.C (Kd.int .i64) W0 A r.2.length r.2
theorem DatOk.snoc {W0 : World} {dat : List (List Value)} {ml : List Res} (h : DatOk W0 dat ml) (r : Res) (A : Option Addr) (c : Nat) (hc : r.2.length ≤ c) (hl : r.2.length ≤ 20000) (hC : Kd.C (Kd.int .i64) W0 A r.2.length r.2) : DatOk W0 (dat ++ [[.slice A r.2.length c]]) (ml ++ [r]) := by
  refine ⟨by simp [h.1], fun j r' hj => ?_⟩
  by_cases hlt : j < ml.length
  · rw [List.getElem?_append_left hlt] at hj
    obtain ⟨A', c', h1, h2⟩ := h.2 j r' hj
    exact ⟨A', c', by rw [List.getElem?_append_left (by rw [h.1]; exact hlt)]; exact h1, h2⟩
  · have hl2 := (List.getElem?_eq_some_iff.1 hj).1
    have : j = ml.length := by simp at hl2; omega
    subst this
    rw [List.getElem?_append_right (Nat.le_refl _)] at hj
    simp at hj
    subst hj
    exact ⟨A, c, by rw [← h.1, List.getElem?_append_right (Nat.le_refl _)]; simp, hc, hl, hC⟩
theorem DatOk.drop {W0 : World} {dat : List (List Value)} {ml : List Res} (h : DatOk W0 dat ml) (m : Nat) : DatOk W0 (dat.drop m) (ml.drop m) :=
  ⟨by simp [h.1], fun j r hj => by rw [List.getElem?_drop] at hj ⊢; exact h.2 _ r hj⟩
end Go.Proofs.YtaphacgdokhmmaaDoor.H
