/- The contract of tree.Right: whether a tree may be. What it answers is 'tree_Right.f'. -/
import Derived.Test.YtobgkpnigjfhmaaDoorQHTreeMay
import Derived.Laws.EntriesVeiled
set_option linter.unusedVariables false
set_option linter.unusedSimpArgs false
namespace Go.Proofs.YtobgkpnigjfhmaaDoor.H
open Go.RowKit Go.Proofs.YtobgkpnigjfhmaaDoorW.PrintWords Go.Proofs.YtobgkpnigjfhmaaDoorW.PrintLast Go.Proofs.YtobgkpnigjfhmaaDoorW.PrintMore
set_option maxHeartbeats 1000000 in
theorem tree_Right.calls (a0_0 : Int) (a0_1 : Int) (a0_2 : Int) (A0_3 : Option Addr) (c0_3 : Nat) (l0_3 : List S29) (r : Bool) (w : World) (hr0_3 : Kd.C k29 w A0_3 l0_3.length l0_3) (hc0_3 : l0_3.length ≤ c0_3) (h : tree_Right.f a0_0 a0_1 a0_2 l0_3 = some r) :
    Calls Tryd.prog 27 #[.agg #[.int .u8 a0_0, .int .u8 a0_1, .int .i64 a0_2, .slice A0_3 l0_3.length c0_3]] w fun e w' => e = .returned (.bool r) ∧ Below w.heap.size w w' := by
  have HR := Aside0.mk (Option.some.inj h)
  clear h
  have HF := Aside0.mk (Kd.C_F heap29 hr0_3)
  have HC := Aside0.mk hc0_3
  clear hr0_3 hc0_3
  have hu := Tryd.underlying29
  go_enter Tryd.func27, Tryd.ntmps27
  go_wp2_with fail
  obtain ⟨W1, hW1⟩ : ∃ W1, W1 = ((w.alloc (.cells #[.int .u8 a0_0, .int .u8 a0_1, .int .i64 a0_2, .slice A0_3 l0_3.length c0_3] 29)).alloc (.cells #[.int .i64 0] 3)).alloc (.cells #[mayV (w.heap.size + 1) (w.heap.size + 1 + 1)] 118) := ⟨_, rfl⟩
  have HB1 := Aside0.mk (show Below w.heap.size w W1 by
    rw [hW1]
    exact Below.alloc (Below.alloc (below_alloc (Below.refl _ _) _) (by simp) _) (by simp; omega) _)
  have h3 : W1.heap[w.heap.size + 1]? = some (one1 (.int .i64 0) 3) := by
    rw [hW1, Below.heap_alloc _ _ _ (by simp)]
    have := heap_alloc_new (w.alloc (.cells #[.int .u8 a0_0, .int .u8 a0_1, .int .i64 a0_2, .slice A0_3 l0_3.length c0_3] 29)) (.cells #[.int .i64 0] 3)
    simpa using this
  have h4 : W1.heap[w.heap.size + 1 + 1]? = some (one1 (mayV (w.heap.size + 1) (w.heap.size + 1 + 1)) 118) := by
    rw [hW1]
    have := heap_alloc_new ((w.alloc (.cells #[.int .u8 a0_0, .int .u8 a0_1, .int .i64 a0_2, .slice A0_3 l0_3.length c0_3] 29)).alloc (.cells #[.int .i64 0] 3)) (.cells #[mayV (w.heap.size + 1) (w.heap.size + 1 + 1)] 118)
    simpa using this
  have hF1 : Kd.F k29 W1 (fun k => k ≠ w.heap.size + 1) A0_3 l0_3.length l0_3 := Kd.F_mono (Kd.F_below HF.out HB1.out) (fun k hk => by omega)
  change Calls Tryd.prog 53 _ (((w.alloc (.cells #[.int .u8 a0_0, .int .u8 a0_1, .int .i64 a0_2, .slice A0_3 l0_3.length c0_3] 29)).alloc (.cells #[.int .i64 0] 3)).alloc (.cells #[mayV (w.heap.size + 1) (w.heap.size + 1 + 1)] 118)) _
  rw [← hW1]
  clear hW1
  refine (may_calls (SizeOf.sizeOf (⟨a0_0, a0_1, a0_2, l0_3⟩ : S29) + 1) ⟨a0_0, a0_1, a0_2, l0_3⟩ (Nat.lt_succ_self _) 1 0 A0_3 c0_3 W1 (w.heap.size + 1) (w.heap.size + 1 + 1) (by omega) h3 h4 hF1 HC.out).mono ?_
  rintro e W2 ⟨rfl, hg, _⟩
  rw [HR.out]
  have HB2 := Aside0.mk (HB1.out.grown hg HB1.out.size (fun k hk => by injection hk with hk; omega))
  clear h3 h4 hF1 hg
  go_wp2
  go_ret
  exact ⟨rfl, HB2.out⟩
end Go.Proofs.YtobgkpnigjfhmaaDoor.H
