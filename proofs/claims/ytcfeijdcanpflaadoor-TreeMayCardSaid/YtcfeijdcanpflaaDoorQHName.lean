/- tree.names, tree.Name. -/
import Derived.Test.YtcfeijdcanpflaaDoorQHx0
import Derived.Outline
import Derived.Deep.WholeRow
set_option linter.unusedVariables false
set_option linter.unusedSimpArgs false
namespace Go.Proofs.YtcfeijdcanpflaaDoor.H
open Go.RowKit Go.Proofs.YtcfeijdcanpflaaDoorW.PrintWords Go.Proofs.YtcfeijdcanpflaaDoorW.PrintLast Go.Proofs.YtcfeijdcanpflaaDoorW.PrintMore
theorem zero_names_info : (Tryd.prog.info? 63).map (·.zero) = some (some (.agg (Array.replicate 69 (.string ⟨#[]⟩)))) := by kernel_rfl
theorem zero_names (w : World) : (zeroValue 63).run Tryd.prog w = .ok (.agg (Array.replicate 69 (.string ⟨#[]⟩))) w := by
  have h := zero_names_info
  cases hi : Tryd.prog.info? 63 with
  | none => rw [hi] at h; cases h
  | some i =>
    rw [hi] at h
    simp only [Option.map_some, Option.some.injEq] at h
    simp [zeroValue, typeInfo, hi, h, go_sem]
def NAMES : List ByteArray := [⟨#[]⟩, ⟨#[98, 108, 97, 110, 107]⟩, ⟨#[108, 105, 110, 101]⟩, ⟨#[99, 111, 109, 109, 101, 110, 116]⟩, ⟨#[111, 112, 101, 110]⟩, ⟨#[111, 100, 100]⟩, ⟨#[110, 97, 109, 101]⟩, ⟨#[105, 110, 116]⟩, ⟨#[116, 101, 120, 116]⟩, ⟨#[98, 114, 111, 107, 101, 110]⟩, ⟨#[108, 101, 116]⟩, ⟨#[102, 110]⟩, ⟨#[105, 102]⟩, ⟨#[101, 108, 115, 101]⟩, ⟨#[119, 104, 105, 108, 101]⟩, ⟨#[114, 101, 116, 117, 114, 110]⟩, ⟨#[116, 114, 117, 101]⟩, ⟨#[102, 97, 108, 115, 101]⟩, ⟨#[]⟩, ⟨#[]⟩, ⟨#[40]⟩, ⟨#[41]⟩, ⟨#[123]⟩, ⟨#[125]⟩, ⟨#[44]⟩, ⟨#[59]⟩, ⟨#[61]⟩, ⟨#[61, 61]⟩, ⟨#[33, 61]⟩, ⟨#[60]⟩, ⟨#[60, 61]⟩, ⟨#[62]⟩, ⟨#[62, 61]⟩, ⟨#[43]⟩, ⟨#[45]⟩, ⟨#[42]⟩, ⟨#[47]⟩, ⟨#[37]⟩, ⟨#[33]⟩, ⟨#[38, 38]⟩, ⟨#[124, 124]⟩, ⟨#[]⟩, ⟨#[]⟩, ⟨#[]⟩, ⟨#[]⟩, ⟨#[]⟩, ⟨#[]⟩, ⟨#[]⟩, ⟨#[]⟩, ⟨#[]⟩, ⟨#[77, 105, 115, 115, 105, 110, 103]⟩, ⟨#[70, 105, 108, 101]⟩, ⟨#[66, 108, 111, 99, 107]⟩, ⟨#[76, 101, 116]⟩, ⟨#[70, 110]⟩, ⟨#[80, 97, 114, 97, 109, 115]⟩, ⟨#[73, 102]⟩, ⟨#[87, 104, 105, 108, 101]⟩, ⟨#[82, 101, 116, 117, 114, 110]⟩, ⟨#[68, 111]⟩, ⟨#[69, 120, 112, 114]⟩, ⟨#[66, 105, 110, 97, 114, 121]⟩, ⟨#[85, 110, 97, 114, 121]⟩, ⟨#[67, 97, 108, 108]⟩, ⟨#[65, 114, 103, 115]⟩, ⟨#[71, 114, 111, 117, 112]⟩, ⟨#[85, 115, 101]⟩, ⟨#[80, 108, 97, 105, 110]⟩, ⟨#[69, 114, 114, 111, 114]⟩]
def NAMEV : Value := .agg (NAMES.map Value.string).toArray
set_option maxHeartbeats 8000000 in
set_option maxRecDepth 100000 in
theorem names_calls (w : World) : Calls Tryd.prog 26 #[] w fun e w' => e = .returned NAMEV ∧ Below w.heap.size w w' := by
  go_enter Tryd.func26, Tryd.ntmps26
  have hz := zero_names
  have hst := run_storeCells_new (P := Tryd.prog) w 63 (Array.replicate 69 (.string ⟨#[]⟩)) (NAMES.map Value.string).toArray (by kernel_rfl) (by kernel_rfl) (by kernel_rfl)
  go_wp2_with ((with_reducible refine gate_dst (N := 1) rfl ?_); refine Kd.event_run (v := NAMEV) (w1 := w.alloc (.cells (Array.replicate 69 (.string ⟨#[]⟩)) 63)) rfl (by kernel_rfl) ?_; unfold NAMEV)
  refine bodyPost_ret (v := NAMEV) (results_single (r := .cell 0 63) rfl (.cell w.heap.size 63 _ (0, 0) _ rfl (by simp only [World.alloc, Array.getElem?_push_size]) Tryd.underlying63 rfl (by kernel_rfl) .nil)) rfl ⟨rfl, Below.alloc (Below.refl _ _) (Nat.le_refl _) _⟩
theorem names_store (w : World) : (storeCells ⟨w.heap.size, 0, none⟩ (List.map Value.string NAMES)).run Tryd.prog (w.alloc (.cells (Array.replicate 69 (.string ⟨#[]⟩)) 63)) = .ok () (w.alloc (.cells (List.map Value.string NAMES).toArray 63)) :=
  run_storeCells_new (P := Tryd.prog) w 63 (Array.replicate 69 (.string ⟨#[]⟩)) (NAMES.map Value.string).toArray (by kernel_rfl) (by kernel_rfl) (by kernel_rfl)
set_option maxHeartbeats 8000000 in
set_option maxRecDepth 100000 in
theorem name_calls (k : Int) (h0 : 0 ≤ k) (h1 : k < 256) (w : World) : Calls Tryd.prog 18 #[.int .u8 k] w fun e w' => e = .returned (.string (NAMES.getD k.toNat ByteArray.empty)) ∧ Below w.heap.size w w' := by
  have hz := zero_names
  have hst := names_store
  go_enter Tryd.func18, Tryd.ntmps18
  go_wp2_with (go_at_call 26; refine (names_calls _).mono ?_; rintro e w1 ⟨rfl, hb⟩; unfold NAMEV)
  all_goals
    have hl : NAMES.length = 69 := by decide +kernel
    go_ret
    refine ⟨?_, Below.alloc hb hb.size _⟩
  · rw [List.getD_eq_getElem?_getD, List.getElem?_eq_none (by omega)]
    rfl
  · rw [List.getD_eq_getElem?_getD, List.getElem?_eq_getElem (by omega)]
    rfl
#print axioms name_calls
end Go.Proofs.YtcfeijdcanpflaaDoor.H
