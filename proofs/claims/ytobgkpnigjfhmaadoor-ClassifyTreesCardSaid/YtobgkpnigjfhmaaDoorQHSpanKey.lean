/- Maps whose keys are spans: what a span reads as; what such a map holds. -/
import Derived.Test.YtobgkpnigjfhmaaDoorQHMapRaw
import Derived.DeepKeys4
import Derived.OpenShut
set_option linter.unusedVariables false
set_option linter.unusedSimpArgs false
namespace Go.Proofs.YtobgkpnigjfhmaaDoor.H
open Go.RowKit Go.Proofs.YtobgkpnigjfhmaaDoorW.PrintWords Go.Proofs.YtobgkpnigjfhmaaDoorW.PrintLast Go.Proofs.YtobgkpnigjfhmaaDoorW.PrintMore
open Go.Maps (Keyed IsMap)
theorem sp_laid : laidOutB Tryd.prog = true := by kernel_rfl
theorem sp_row : (41 : TypeId) < Tryd.prog.types.size := of_decide_eq_true (by kernel_rfl)
theorem sp_wide : (match Tryd.prog.underlying 41 with | some (.array _ _) | some (.struct _) => true | _ => false) = true := by rw [Tryd.underlying41]
set_option maxRecDepth 100000 in
theorem spLaw : Keyed Tryd.prog 41 := Keyed.of_law (deep_law_laid sp_laid (m := 2) (by omega) sp_row (by kernel_rfl) sp_wide)
def inI (a : Int) : Prop := -9223372036854775808 ≤ a ∧ a ≤ 9223372036854775807
theorem inI_wf {a : Int} (h : inI a) : (Lit.int .i64 a).wf = true := WalkArith.wf_i64 h
theorem inI_of {a : Int} (h : (Lit.int .i64 a).wf = true) : inI a := bounds_i64 h
theorem inI_wrap (a : Int) : inI (wrap64 a) := by unfold inI wrap64; omega
abbrev spV (s : Int × Int) : Value := .agg #[.int .i64 s.1, .int .i64 s.2]
theorem spCells : Tryd.prog.cellsOf 41 = 2 := by kernel_rfl
theorem spCells3 : Tryd.prog.cellsOf 3 = 1 := by kernel_rfl
theorem spKeyT : Tryd.prog.keyType 41 = true := by kernel_rfl
theorem spKey (s : Int × Int) (h1 : inI s.1) (h2 : inI s.2) : ∃ l, keyOf Tryd.prog 41 (spV s) = some l := by
  have w1 := inI_wf h1
  have w2 := inI_wf h2
  obtain ⟨n, hn⟩ : ∃ n, Tryd.prog.types.size + 1 = n + 1 + 1 := ⟨Tryd.prog.types.size - 1, by have h : 0 < Tryd.prog.types.size := Nat.lt_of_le_of_lt (Nat.zero_le _) sp_row; omega⟩
  unfold keyOf
  rw [Tryd.underlying41]
  simp only [spKeyT, hn]
  have hf : (spV s).formed Tryd.prog 41 = true := by simp [Value.formed, Tryd.underlying41, spCells]
  simp only [hf, Bool.and_self, if_true]
  simp [Program.keyLits, Tryd.underlying41, spCells, spCells3, Tryd.underlying3, Value.cells, w1, w2]
end Go.Proofs.YtobgkpnigjfhmaaDoor.H
