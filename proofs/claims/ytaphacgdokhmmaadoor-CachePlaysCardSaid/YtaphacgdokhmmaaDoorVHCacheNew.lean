/- cache.New; a cache that is nobody's: nil, or without a map. -/
import Derived.Test.YtaphacgdokhmmaaDoorVHCachePut
set_option linter.unusedVariables false
set_option linter.unusedSimpArgs false
namespace Go.Proofs.YtaphacgdokhmmaaDoor.H
open Go.RowKit Go.Shelf Go.Proofs.YtaphacgdokhmmaaDoorW.PrintWords Go.Proofs.YtaphacgdokhmmaaDoorW.PrintLast Go.Proofs.YtaphacgdokhmmaaDoorW.PrintMore
open Go.MuLone
set_option maxHeartbeats 8000000 in
set_option maxRecDepth 100000 in
theorem new_calls (W : World) :
    Calls Tryd.prog 8 #[] W fun e W' => ∃ b, e = .returned (.pointer (some ⟨b, 0, none⟩)) ∧ CI (fun q => W.heap.size ≤ q ∧ q < W'.heap.size) W' b 0 (fun _ => []) ∧ Below W.heap.size W W' := by
  have hmm := @run_makeMap Tryd.prog
  go_enter Tryd.func8, Tryd.ntmps8
  go_wp2
  go_ret
  have hs1 : (W.alloc (.map #[] 0)).heap.size = W.heap.size + 1 := by simp
  have hs2 : ((W.alloc (.map #[] 0)).alloc (.cells #[.int .i64 0, .int .i32 0, .int .u32 0, .map (some W.heap.size)] 51)).heap.size = W.heap.size + 2 := by simp
  refine ⟨W.heap.size + 1, by first | rfl | simp, ⟨W.heap.size, 0, .map [], fun _ => none, Nat.le_refl _, ?_⟩, ?_⟩
  · refine ⟨?_, ⟨by omega, by rw [hs2]; omega⟩, ⟨Nat.le_refl _, by rw [hs2]; omega⟩, by omega, rfl, rfl, ?_, fun q hq => absurd rfl hq, fun u hu => ?_, fun u => by simp, fun u => by simp⟩
    · have := heap_alloc_new (W.alloc (.map #[] 0)) (.cells #[.int .i64 0, .int .i32 0, .int .u32 0, .map (some W.heap.size)] 51)
      rw [hs1] at this
      exact this
    · exact (World.ownsMap_made W Tryd.prog 9 rawE).alloc _
    · rw [mval_empty]
      exact Kd.N_nil _ _ _ _ _
  · exact below_alloc (below_alloc (Below.refl _ _) _) _
def Nob (W : World) (p : Option Addr) : Prop := p = none ∨ ∃ b, p = some ⟨b, 0, none⟩ ∧ W.heap[b]? = some (.cells #[.int .i64 0, .int .i32 0, .int .u32 0, .map none] 51 (0, 0))
theorem Nob.below {W W' : World} {p : Option Addr} (h : Nob W p) (hb : Below W.heap.size W W') : Nob W' p := by
  rcases h with h | ⟨b, h, hk⟩
  · exact .inl h
  · exact .inr ⟨b, h, blk_below hk hb⟩
end Go.Proofs.YtaphacgdokhmmaaDoor.H
