/- The law's stack in memory: a row of the call's own, read, written, cut. -/
import Derived.Test.YtcfeijdcanpflaaDoorQPureSpans
import Derived.Test.YtcfeijdcanpflaaDoorQHTreeWalkU
import Derived.Maps.AppendAt
set_option linter.unusedVariables false
set_option linter.unusedSimpArgs false
namespace Go.Proofs.YtcfeijdcanpflaaDoor.H
open Go.RowKit Go.Shelf Go.Proofs.YtcfeijdcanpflaaDoorW.PrintWords Go.Proofs.YtcfeijdcanpflaaDoorW.PrintLast Go.Proofs.YtcfeijdcanpflaaDoorW.PrintMore
def flatS : List Op3 → List Value
  | [] => []
  | o :: st => flatS st ++ [.int .i64 o.1, .int .i64 o.2.1, .int .i64 o.2.2]
theorem flatS_length : ∀ st : List Op3, (flatS st).length = st.length * 3
  | [] => rfl
  | o :: st => by simp [flatS, flatS_length st]; omega
def OwnS (base : Nat) (X : World) (v : Value) (st : List Op3) : Prop := X.ownsRow base 36 3 v st.length (flatS st)
theorem OwnS.set {base : Nat} {X : World} {g cap : Nat} {o : Op3} {st : List Op3} (h : OwnS base X (.slice (some ⟨g, 0, none⟩) (st.length + 1) cap) (o :: st)) (j : Nat) (hj : j < 3) (y : Int) (o' : Op3)
    (ho : ([.int .i64 o'.1, .int .i64 o'.2.1, .int .i64 o'.2.2] : List Value) = ([.int .i64 o.1, .int .i64 o.2.1, .int .i64 o.2.2] : List Value).set j (.int .i64 y)) :
    OwnS base (X.setCell ⟨g, st.length * 3 + j, none⟩ (.int .i64 y)) (.slice (some ⟨g, 0, none⟩) (st.length + 1) cap) (o' :: st) := by
  rcases h.2 with ⟨h0, _⟩ | ⟨g', cap', cur, hv, hb, hg, hn, hm, hs, ht⟩
  · cases h0
  · injection hv with ha _ hc
    injection ha with ha
    injection ha with ha
    subst ha hc
    refine ⟨by simp [flatS, flatS_length]; omega, .inr ⟨g, cap, cur.setIfInBounds (st.length * 3 + j) (.int .i64 y), rfl, hb, blk_set hg _ _, hn, hm, by simpa using hs, ?_⟩⟩
    simp only [List.length_cons] at ht hn ⊢
    rw [Array.toList_setIfInBounds, List.take_set, ht, flatS, flatS, List.set_append_right _ _ (by rw [flatS_length]; omega), flatS_length, ho]
    congr 2
    omega
theorem OwnS.slice {base : Nat} {X : World} {v : Value} {st : List Op3} (h : OwnS base X v st) : ∃ A c, v = .slice A st.length c := by
  rcases h.2 with ⟨rfl, h0⟩ | ⟨g, cap, cur, rfl, _⟩
  · exact ⟨none, 0, by rw [h0]⟩
  · exact ⟨_, _, rfl⟩
theorem OwnS.lt {base : Nat} {X : World} {v : Value} {st : List Op3} (h : OwnS base X v st) : ∀ k, v.ownBlock = some k → base ≤ k ∧ ∃ cur, X.heap[k]? = some (.cells cur 36 (0, 0)) := by
  intro k hk
  rcases h.2 with ⟨rfl, _⟩ | ⟨g, cap, cur, rfl, hb, hg, _⟩
  · simp [Value.ownBlock] at hk
  · simp only [Value.ownBlock, Option.some.injEq] at hk
    subst hk
    exact ⟨hb, cur, hg⟩
theorem OwnS.kept {base : Nat} {X X' : World} {v : Value} {st : List Op3} (h : OwnS base X v st) (hk : ∀ k, v.ownBlock = some k → X'.heap[k]? = X.heap[k]?) : OwnS base X' v st := by
  refine ⟨h.1, ?_⟩
  rcases h.2 with hn | ⟨g, cap, cur, rfl, hb, hg, rest⟩
  · exact .inl hn
  · exact .inr ⟨g, cap, cur, rfl, hb, (hk g rfl).trans hg, rest⟩
theorem infoOpen : (Tryd.prog.info? 36).map (fun i => (i.zero, i.size, i.bytes)) = some (some (.agg #[.int .i64 0, .int .i64 0, .int .i64 0]), 3, 24) := by kernel_rfl
theorem OwnS.put {base : Nat} {X Y : World} {n cv : Nat} {Av : Option Addr} {st : List Op3} (h : OwnS base X (.slice Av n cv) st) (hn : n = st.length) (hbase : base ≤ X.heap.size) (hl : st.length ≤ 2000000) (hbY : Below X.heap.size X Y) (o : Op3)
    (hnew : Y.heap[X.heap.size]? = some (.cells #[.int .i64 o.1, .int .i64 o.2.1, .int .i64 o.2.2] 36 (0, 0))) :
    ∃ g cap w1, (Builtin.append_ #[29, 29] 29 #[.slice Av n cv, .slice (some ⟨X.heap.size, 0, none⟩) 1 1]).run Tryd.prog Y = .ok (.slice (some ⟨g, 0, none⟩) (n + 1) cap) w1 ∧
      X.grownBy w1 (Value.slice Av n cv).ownBlock ∧ ((Value.slice Av n cv).ownBlock = some g ∨ X.heap.size ≤ g) ∧ OwnS base w1 (.slice (some ⟨g, 0, none⟩) (n + 1) cap) (o :: st) := by
  subst hn
  obtain ⟨i0, hi, hzz⟩ := Option.map_eq_some_iff.1 infoOpen
  simp only [Prod.mk.injEq] at hzz
  obtain ⟨hz0, hz1, hz2⟩ := hzz
  have hgY : X.grownBy Y none := ⟨hbY.os, hbY.tape, hbY.output, hbY.size, fun q hq _ => hbY.block q hq⟩
  have hown : Y.ownsRow base 36 3 (.slice Av st.length cv) st.length (flatS st) := OwnS.kept h (fun k hk => hbY.block k (by obtain ⟨_, cur, hc⟩ := h.lt k hk; exact (Array.getElem?_eq_some_iff.1 hc).1))
  obtain ⟨v1, w1, hrun, hown1, hg1, hnil, hat⟩ := run_append_own_at (P := Tryd.prog) (w := Y) base 29 29 36 i0 _ 3 24 Tryd.underlying29 hi hz0 hz1 hz2 rfl (by decide) _ st.length (flatS st) hown ⟨X.heap.size, 0, none⟩ 1 1 [.int .i64 o.1, .int .i64 o.2.1, .int .i64 o.2.2] (by rfl)
    (fun j u hu => by rw [show (⟨X.heap.size, 0, none⟩ : Addr).add j = ⟨X.heap.size, j, none⟩ by simp [Addr.add, eq_comm], blk_cell hnew j, ← Array.getElem?_toList]; exact hu) (by intro u hu; simp at hu; rcases hu with rfl | rfl | rfl <;> rfl) (by simp only [maxLen]; omega) (by omega) (Nat.le_trans hbase hbY.size)
  have hgX : X.grownBy w1 (Value.slice Av st.length cv).ownBlock := World.grownBy.trans ⟨hbY.os, hbY.tape, hbY.output, hbY.size, fun q hq _ => hbY.block q hq⟩ hg1
  obtain ⟨g, cap, cur, rfl⟩ : ∃ g cap, ∃ cur : Unit, v1 = .slice (some ⟨g, 0, none⟩) (st.length + 1) cap := by
    rcases hown1.2 with ⟨_, h⟩ | ⟨g, cap, cur, rfl, _⟩
    · omega
    · exact ⟨g, cap, (), rfl⟩
  refine ⟨g, cap, w1, hrun, hgX, ?_, hown1⟩
  rcases hat with h | h
  · exact .inl (by rw [← h]; rfl)
  · simp only [Value.ownBlock, Option.some.injEq] at h
    exact .inr (by have := hbY.size; omega)
structure Sq (n0 lb fb : Nat) (v0 : Value) (Wb : World) (v : Value) (st : List Op3) (b : Bool) (X : World) : Prop where
  size : Wb.heap.size ≤ X.heap.size
  low : Below n0 Wb X
  same : ∀ k o, Wb.heap[k]? = some o → k ≠ lb → k ≠ fb → v0.ownBlock ≠ some k → X.heap[k]? = some o
  lbx : X.heap[lb]? = some (.cells #[v] 29 (0, 0))
  fbx : X.heap[fb]? = some (.cells #[.bool b] 4 (0, 0))
  own : ∀ k, v.ownBlock = some k → v0.ownBlock = some k ∨ Wb.heap.size ≤ k
  row : OwnS n0 X v st
theorem Sq.refl {n0 lb fb : Nat} {v0 : Value} {Wb : World} {st : List Op3} {b : Bool} (h1 : Wb.heap[lb]? = some (.cells #[v0] 29 (0, 0))) (h2 : Wb.heap[fb]? = some (.cells #[.bool b] 4 (0, 0))) (h3 : OwnS n0 Wb v0 st) : Sq n0 lb fb v0 Wb v0 st b Wb :=
  ⟨Nat.le_refl _, Below.refl _ _, fun _ _ h _ _ _ => h, h1, h2, fun _ h => .inl h, h3⟩
section
variable {n0 lb fb : Nat} {v0 : Value} {Wb : World} {v : Value} {st : List Op3} {b : Bool} {X : World}
theorem Sq.below (h : Sq n0 lb fb v0 Wb v st b X) (hn : n0 ≤ X.heap.size) {X' : World} (hb : Below X.heap.size X X') : Sq n0 lb fb v0 Wb v st b X' :=
  ⟨Nat.le_trans h.size hb.size, h.low.trans (hb.mono hn), fun k o hk h1 h2 h3 => (hb.block k (Array.getElem?_eq_some_iff.1 (h.same k o hk h1 h2 h3)).1).trans (h.same k o hk h1 h2 h3), blk_below h.lbx hb, blk_below h.fbx hb, h.own, h.row.kept (fun k hk => by obtain ⟨_, cur, hc⟩ := h.row.lt k hk; exact hb.block k (Array.getElem?_eq_some_iff.1 hc).1)⟩
end
end Go.Proofs.YtcfeijdcanpflaaDoor.H
