/- tree.all, tree.Walk. -/
import Derived.Test.YtcfeijdcanpflaaDoorQHTreeIterU
set_option linter.unusedVariables false
set_option linter.unusedSimpArgs false
namespace Go.Proofs.YtcfeijdcanpflaaDoor.H
open Go.RowKit Go.Shelf Go.Proofs.YtcfeijdcanpflaaDoorW.PrintWords Go.Proofs.YtcfeijdcanpflaaDoorW.PrintLast Go.Proofs.YtcfeijdcanpflaaDoorW.PrintMore
attribute [local go_sem] Oper.semAt_some
abbrev boxN (k w wd : Int) (A : Option Addr) (n c : Nat) : Obj := .cells #[.int .u8 k, .int .u8 w, .int .i64 wd, .slice A n c] 25 (0, 0)
set_option maxHeartbeats 1000000 in
theorem all_in (n : Nat) (k w1 wd : Int) (A : Option Addr) (m c : Nat) (w : World) :
    CallsIn Fence.wide n Tryd.prog 23 #[.agg #[.int .u8 k, .int .u8 w1, .int .i64 wd, .slice A m c]] w fun e w' => e = .returned (.func (.func 36) #[] #[.pointer (some ⟨w.heap.size, 0, none⟩)]) ∧ w' = w.alloc (boxN k w1 wd A m c) := by
  refine callsIn_of_wp Tryd.func23 rfl trivial ?_ rfl
  simp only [Tryd.ntmps23, List.size_toArray, List.length_cons, List.length_nil, Nat.reduceAdd, Nat.reduceSub, Array.replicate_succ, Array.replicate_zero, List.push_toArray, List.append_toArray, List.nil_append, List.cons_append]
  gi_wp2
  go_ret
  exact ⟨rfl, rfl⟩
theorem OwnFrom.le {β : Type} {B C : Nat} {I : β → World → Prop} (h : OwnFrom B I) (hBC : B ≤ C) : OwnFrom C I := fun s W W' row hs hg hr => h s W W' row hs hg (fun r e => ⟨by have := (hr r e).1; omega, (hr r e).2⟩)
theorem Kp.le {n0 B C : Nat} {bx : List Nat} {W W' : World} (h : Kp n0 B bx W W') (hBC : B ≤ C) : Kp n0 C bx W W' := ⟨h.low, fun k cs t fz ht hk hn hc => h.high k cs t fz ht (by omega) hn hc, h.own, fun k o hk ho hc => h.rest k o (by omega) ho hc⟩
theorem own_cells {β : Type} {B : Nat} {k : Nat} {cs : Array Value} {t : TypeId} {fz : Nat × Nat} : OwnFrom B (fun (_ : β) W => W.heap[k]? = some (.cells cs t fz)) := fun s W W' row hs hg hr =>
  (hg.block k (blk_lt hs) (fun e => by obtain ⟨_, o, ho, hc⟩ := hr k e.symm; rw [hs] at ho; cases ho; cases hc)).trans hs
def spanV (x : AT × Int × Int) : Value := .agg #[.int .i64 x.2.1, .int .i64 (wrap64 (x.2.1 + x.1.wd))]
end Go.Proofs.YtcfeijdcanpflaaDoor.H
