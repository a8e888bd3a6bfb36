/- tree.all (where tree.Walk is not reached). -/
import Derived.Test.YtghbfjmmjfklfaaQHTreeIter
set_option linter.unusedVariables false
set_option linter.unusedSimpArgs false
namespace Go.Proofs.Ytghbfjmmjfklfaa.H
open Go.RowKit Go.Shelf Go.Proofs.YtghbfjmmjfklfaaW.PrintWords Go.Proofs.YtghbfjmmjfklfaaW.PrintLast Go.Proofs.YtghbfjmmjfklfaaW.PrintMore
attribute [local go_sem] Oper.semAt_some
abbrev boxN (k w wd : Int) (A : Option Addr) (n c : Nat) : Obj := .cells #[.int .u8 k, .int .u8 w, .int .i64 wd, .slice A n c] 27 (0, 0)
set_option maxHeartbeats 1000000 in
theorem all_in (n : Nat) (k w1 wd : Int) (A : Option Addr) (m c : Nat) (w : World) :
    CallsIn Fence.wide n Try.prog 67 #[.agg #[.int .u8 k, .int .u8 w1, .int .i64 wd, .slice A m c]] w fun e w' => e = .returned (.func (.func 74) #[] #[.pointer (some ⟨w.heap.size, 0, none⟩)]) ∧ w' = w.alloc (boxN k w1 wd A m c) := by
  refine callsIn_of_wp Try.func67 rfl trivial ?_ rfl
  simp only [Try.ntmps67, List.size_toArray, List.length_cons, List.length_nil, Nat.reduceAdd, Nat.reduceSub, Array.replicate_succ, Array.replicate_zero, List.push_toArray, List.append_toArray, List.nil_append, List.cons_append]
  gi_wp2
  go_ret
  exact ⟨rfl, rfl⟩
theorem own_cells {β : Type} {B : Nat} {k : Nat} {cs : Array Value} {t : TypeId} {fz : Nat × Nat} : OwnFrom B (fun (_ : β) W => W.heap[k]? = some (.cells cs t fz)) := fun s W W' row hs hg hr =>
  (hg.block k (blk_lt hs) (fun e => by obtain ⟨_, o, ho, hc⟩ := hr k e.symm; rw [hs] at ho; cases ho; cases hc)).trans hs
end Go.Proofs.Ytghbfjmmjfklfaa.H
