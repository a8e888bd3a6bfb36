/- The law's example tree. -/
import Derived.Test.YtcfeijdcanpflaaDoorQHTreeAt
import Derived.Outline
set_option linter.unusedVariables false
set_option linter.unusedSimpArgs false
namespace Go.Proofs.YtcfeijdcanpflaaDoor.H
open Go.RowKit Go.Proofs.YtcfeijdcanpflaaDoorW.PrintWords Go.Proofs.YtcfeijdcanpflaaDoorW.PrintLast Go.Proofs.YtcfeijdcanpflaaDoorW.PrintMore
abbrev leafA (k w wd : Int) : AT := .node k w wd none 0 []
def EX (g h : Nat) : AT := .node 51 0 7 (some ⟨h, 0, none⟩) 1 [.node 53 0 7 (some ⟨g, 0, none⟩) 6 [leafA 10 0 3, leafA 1 0 1, leafA 6 0 1, leafA 26 0 1, leafA 50 60 0, leafA 25 0 1]]
abbrev cellsG : Array Value := #[.int .u8 10, .int .u8 0, .int .i64 3, .slice none 0 0, .int .u8 1, .int .u8 0, .int .i64 1, .slice none 0 0, .int .u8 6, .int .u8 0, .int .i64 1, .slice none 0 0, .int .u8 26, .int .u8 0, .int .i64 1, .slice none 0 0, .int .u8 50, .int .u8 60, .int .i64 0, .slice none 0 0, .int .u8 25, .int .u8 0, .int .i64 1, .slice none 0 0]
theorem EX_at {X : World} {g h : Nat} (hg : X.heap[g]? = some (.cells cellsG 25 (0, 0))) (hh : X.heap[h]? = some (.cells #[.int .u8 53, .int .u8 0, .int .i64 7, .slice (some ⟨g, 0, none⟩) 6 6] 25 (0, 0))) : AtT X (EX g h) := by
  have c := blk_cell hg
  have d := blk_cell hh
  simp [EX, AtT, AtL, w0, Addr.add, c, d, AT.k, AT.w, AT.wd, AT.A, AT.kids, AT.c]
set_option maxHeartbeats 8000000 in
set_option maxRecDepth 100000 in
theorem example_calls (w : World) : Calls Tryd.prog 21 #[] w fun e w' => ∃ g h, e = .returned (EX g h).val ∧ AtT w' (EX g h) ∧ Below w.heap.size w w' := by
  have hu := Tryd.underlying25
  go_enter Tryd.func21, Tryd.ntmps21
  go_wp2
  obtain ⟨W1, hW1⟩ : ∃ W1, W1 = w.alloc (.cells #[.int .u8 51, .int .u8 0, .int .i64 7, .slice (some ⟨w.heap.size + 1 + 1 + 1, 0, none⟩) 1 1] 25) := ⟨_, rfl⟩
  obtain ⟨W2, hW2⟩ : ∃ W2, W2 = W1.alloc (.cells cellsG 25) := ⟨_, rfl⟩
  obtain ⟨W3, hW3⟩ : ∃ W3, W3 = W2.alloc (.cells #[.int .u8 53, .int .u8 0, .int .i64 7, .slice (some ⟨w.heap.size + 1, 0, none⟩) 6 6] 25) := ⟨_, rfl⟩
  obtain ⟨W4, hW4⟩ : ∃ W4, W4 = W3.alloc (.cells #[.int .u8 53, .int .u8 0, .int .i64 7, .slice (some ⟨w.heap.size + 1, 0, none⟩) 6 6] 25) := ⟨_, rfl⟩
  rw [← hW1, ← hW2, ← hW3, ← hW4]
  have z1 : W1.heap.size = w.heap.size + 1 := by rw [hW1]; simp
  have z2 : W2.heap.size = w.heap.size + 1 + 1 := by rw [hW2, World.size_alloc, z1]
  have z3 : W3.heap.size = w.heap.size + 1 + 1 + 1 := by rw [hW3, World.size_alloc, z2]
  have b1 : Below w.heap.size w W1 := by rw [hW1]; exact below_alloc (Below.refl _ _) _
  have b2 : Below W1.heap.size W1 W2 := by rw [hW2]; exact below_alloc (Below.refl _ _) _
  have b3 : Below W2.heap.size W2 W3 := by rw [hW3]; exact below_alloc (Below.refl _ _) _
  have b4 : Below W3.heap.size W3 W4 := by rw [hW4]; exact below_alloc (Below.refl _ _) _
  have h1 : W1.heap[w.heap.size]? = some (.cells #[.int .u8 51, .int .u8 0, .int .i64 7, .slice (some ⟨w.heap.size + 1 + 1 + 1, 0, none⟩) 1 1] 25 (0, 0)) := by rw [hW1]; exact heap_alloc_new _ _
  have h2 : W2.heap[w.heap.size + 1]? = some (.cells cellsG 25 (0, 0)) := by rw [hW2, ← z1]; exact heap_alloc_new _ _
  have h4 : W4.heap[w.heap.size + 1 + 1 + 1]? = some (.cells #[.int .u8 53, .int .u8 0, .int .i64 7, .slice (some ⟨w.heap.size + 1, 0, none⟩) 6 6] 25 (0, 0)) := by rw [hW4, ← z3]; exact heap_alloc_new _ _
  refine bodyPost_ret (v := (EX (w.heap.size + 1) (w.heap.size + 1 + 1 + 1)).val) (results_single (r := .cell 0 25) rfl (.cell w.heap.size 25 _ (0, 0) _ rfl (blk_below (blk_below (blk_below h1 b2) b3) b4) hu rfl (by kernel_rfl) .nil)) rfl ⟨_, _, rfl, EX_at (blk_below (blk_below h2 b3) b4) h4, below_step (below_step (below_step b1 b2) b3) b4⟩
end Go.Proofs.YtcfeijdcanpflaaDoor.H
