/- cache.New; a cache that is nobody's: nil, or without a map. -/
import Derived.Test.YtaphacgdokhmmaaDoorQHCachePut
set_option linter.unusedVariables false
set_option linter.unusedSimpArgs false
namespace Go.Proofs.YtaphacgdokhmmaaDoor.H
open Go.RowKit Go.Shelf Go.Proofs.YtaphacgdokhmmaaDoorW.PrintWords Go.Proofs.YtaphacgdokhmmaaDoorW.PrintLast Go.Proofs.YtaphacgdokhmmaaDoorW.PrintMore
open Go.MuLone
set_option maxHeartbeats 8000000 in
set_option maxRecDepth 100000 in
theorem new_calls (W : World) :
    Calls Tryd.prog 8 #[] W fun e W' => ∃ b, e = .returned (.pointer (some ⟨b, 0, none⟩)) ∧ CI (fun q => W.heap.size ≤ q ∧ q < W'.heap.size) W' b 0 (fun _ => []) ∧ Below W.heap.size W W' := by
  have hmm := @run_makeMap Tryd.prog
  go_enter Tryd.func8, Tryd.ntmps8
  go_wp2
  go_ret
  have hs1 : (W.alloc (.map #[] 0)).heap.size = W.heap.size + 1 := by simp
  have hs2 : ((W.alloc (.map #[] 0)).alloc (.cells #[.int .i64 0, .int .i32 0, .int .u32 0, .map (some W.heap.size)] 51)).heap.size = W.heap.size + 2 := by simp
  refine ⟨W.heap.size + 1, by first | rfl | simp, ⟨W.heap.size, 0, .map [], fun _ => none, Nat.le_refl _, ?_⟩, ?_⟩
  · refine ⟨?_, ⟨by omega, by rw [hs2]; omega⟩, ⟨Nat.le_refl _, by rw [hs2]; omega⟩, by omega, rfl, rfl, ?_, fun q hq => absurd rfl hq, fun u hu => ?_, fun u => by simp, fun u => by simp⟩
    · have := heap_alloc_new (W.alloc (.map #[] 0)) (.cells #[.int .i64 0, .int .i32 0, .int .u32 0, .map (some W.heap.size)] 51)
      rw [hs1] at this
      exact this
    · exact (World.ownsMap_made W Tryd.prog 9 rawE).alloc _
    · rw [mval_empty]
      exact Kd.N_nil _ _ _ _ _
  · exact below_alloc (below_alloc (Below.refl _ _) _) _
def Nob (W : World) (p : Option Addr) : Prop := p = none ∨ ∃ b, p = some ⟨b, 0, none⟩ ∧ W.heap[b]? = some (.cells #[.int .i64 0, .int .i32 0, .int .u32 0, .map none] 51 (0, 0))
theorem Nob.below {W W' : World} {p : Option Addr} (h : Nob W p) (hb : Below W.heap.size W W') : Nob W' p := by
  rcases h with h | ⟨b, h, hk⟩
  · exact .inl h
  · exact .inr ⟨b, h, blk_below hk hb⟩
set_option maxHeartbeats 8000000 in
set_option maxRecDepth 100000 in
theorem none_nob (p : Option Addr) (w : World) (h : Nob w p) :
    Calls Tryd.prog 21 #[.pointer p] w fun e w' => e = .returned (.bool true) ∧ w = w' := by
  rcases h with rfl | ⟨b, rfl, hb⟩
  · go_enter Tryd.func21, Tryd.ntmps21
    go_wp2
    go_ret
    exact ⟨rfl, rfl⟩
  · have c3 := blk_cell hb 3
    simp at c3
    have hm : (binOp .eql 49 (.map none) (.map none)).run Tryd.prog w = .ok (.bool true) w := run_eql_map_nil w _ _ _ none Tryd.underlying49
    go_enter Tryd.func21, Tryd.ntmps21
    go_wp2
    go_ret
    exact ⟨rfl, rfl⟩
set_option maxHeartbeats 8000000 in
set_option maxRecDepth 100000 in
theorem drop_nob (p : Option Addr) (u : ByteArray) (w : World) (h : Nob w p) :
    Calls Tryd.prog 10 #[.pointer p, .string u] w fun e w' => e = .returned (.tuple #[]) ∧ w = w' := by
  go_enter_defers Tryd.func10, Tryd.ntmps10
  go_wp2_with (go_at_call 21; refine (none_nob p w h).mono ?_; rintro e w' ⟨rfl, rfl⟩)
  exact ⟨_, results_none rfl _ _ _, rfl, rfl⟩
set_option maxHeartbeats 8000000 in
set_option maxRecDepth 100000 in
theorem get_nob (p : Option Addr) (u id : ByteArray) (w : World) (h : Nob w p) :
    Calls Tryd.prog 11 #[.pointer p, .string u, .string id] w fun e w' => e = .returned (.tuple #[.slice none 0 0, .bool false]) ∧ w = w' := by
  go_enter_defers Tryd.func11, Tryd.ntmps11
  go_wp2_with (go_at_call 21; refine (none_nob p w h).mono ?_; rintro e w' ⟨rfl, rfl⟩)
  exact ⟨_, results_tmp2 rfl _ _ _, rfl, rfl⟩
set_option maxHeartbeats 8000000 in
set_option maxRecDepth 100000 in
theorem put_nob (p : Option Addr) (u : ByteArray) (v : Value) (w : World) (h : Nob w p) :
    Calls Tryd.prog 12 #[.pointer p, .string u, v] w fun e w' => e = .returned (.string ⟨#[]⟩) ∧ w = w' := by
  go_enter_defers Tryd.func12, Tryd.ntmps12
  go_wp2_with (go_at_call 21; refine (none_nob p w h).mono ?_; rintro e w' ⟨rfl, rfl⟩)
  exact ⟨_, results_tmp rfl _ _ _, rfl, rfl⟩
set_option maxHeartbeats 8000000 in
set_option maxRecDepth 100000 in
theorem kept_nob (p : Option Addr) (u : ByteArray) (w : World) (h : Nob w p) :
    Calls Tryd.prog 13 #[.pointer p, .string u] w fun e w' => e = .returned (.slice none 0 0) ∧ w = w' := by
  go_enter_defers Tryd.func13, Tryd.ntmps13
  go_wp2_with (go_at_call 21; refine (none_nob p w h).mono ?_; rintro e w' ⟨rfl, rfl⟩)
  exact ⟨_, results_tmp rfl _ _ _, rfl, rfl⟩
end Go.Proofs.YtaphacgdokhmmaaDoor.H
