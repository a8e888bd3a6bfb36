/- ClassifyLegend: the row and its card, over the walk. -/
import Derived.Test.YtejdjnfcfnppaaaDoorCards
import Derived.Test.YtejdjnfcfnppaaaDoorTie
import Derived.Test.YtejdjnfcfnppaaaDoorHLegend
import Derived.WalkKit
import Derived.ProofKit
import Derived.OpenShut
import Derived.ShutString
import Derived.ChangeOld
import Derived.Below
import Derived.SizedLaws
import Derived.Deep.DeepWitnessRowRef
import Derived.Deep.Slices
import Derived.LaidLaws
set_option linter.unusedVariables false
set_option linter.unusedSimpArgs false
namespace Go.Proofs.YtejdjnfcfnppaaaDoor.classifyLegend
open Go.ChangeShapes Go.WideShapes Go.ChangeAt Go.RowKit Go.Proofs.YtejdjnfcfnppaaaDoorW.PrintWords Go.Proofs.YtejdjnfcfnppaaaDoor.H
theorem own : ownKnob Tryd.prog.godebug = none := by kernel_rfl
theorem gLegend : Tryd.prog.globalNamed "glossator/classify.legend" = some 0 := by kernel_rfl
theorem gLegendType : (Tryd.prog.globals[0]?).map (·.type) = some 26 := by kernel_rfl
theorem cells22 : Tryd.prog.cellsOf 22 = 1 := by kernel_rfl
theorem cells9 : Tryd.prog.cellsOf 9 = 1 := by kernel_rfl
theorem cells26 : Tryd.prog.cellsOf 26 = 2 := by kernel_rfl
/-- A slice that reads as these strings. -/
theorem strings_of {W : World} {fuel : Nat} {cs : List Value} {l : List ByteArray} {sp : List (DataW Unit)} {p : List MemPlace} (hl : 0 < l.length)
    (h : DataW.trod (fun _ => ()) Tryd.prog W 0 (fun _ => true) false fuel 22 cs = some (.slice (l.map fun s => .lit (.string s.data.toList)) sp, p)) :
    ∃ ad c, cs = [.slice (some ad) l.length c] ∧ l.length ≤ c ∧ Kd.string.C W (some ad) l.length l := by
  rcases Deep.open_slice Tryd.underlying22 h with ⟨_, hx⟩ | ⟨a, len, cap, m, n, D, Pl, rfl, _, hle, hm, hmm, hx, hel⟩
  · cases hx
  · simp only [Prod.mk.injEq, DataW.slice.injEq] at hx
    obtain ⟨⟨hd, _⟩, _⟩ := hx
    have hlen : l.length = len := by simpa using congrArg List.length hd
    subst hlen
    have hmle : l.length ≤ m := by rw [hmm]; simp; omega
    refine ⟨a, cap, rfl, hle, rfl, by simp only [maxLen] at hm; omega, fun _ => ⟨a, rfl, fun j q hj => ?_⟩⟩
    obtain ⟨hlt, rfl⟩ := List.getElem?_eq_some_iff.1 hj
    obtain ⟨cs', hc, ht⟩ := hel j (by omega)
    obtain ⟨s, rfl, hs, _⟩ := DataW.trod_string Tryd.underlying9 ht
    have hD : DataW.lit (.string l[j].data.toList) = (D j : DataW Unit) := by
      have := congrArg (·[j]?) hd
      simpa [hlt] using this
    simp only [Prod.mk.injEq] at hs
    have e : s = l[j] := by
      have := hD.trans hs.1
      simp only [DataW.lit.injEq, Lit.string.injEq] at this
      have h2 := Array.toList_inj.1 this
      exact (ByteArray.ext h2).symm
    subst e
    refine ⟨[.string l[j]], rfl, rfl, fun i u hu => ?_⟩
    obtain ⟨_, _, hcell⟩ := World.cells?_some hc
    have hi : i < 1 := by simpa using (List.getElem?_eq_some_iff.1 hu).1
    have := hcell i (by rw [cells9]; exact hi)
    rw [Deep.add_add] at this
    rw [show j * Kd.string.sz + i = j * Tryd.prog.cellsOf 9 + i by rw [cells9]; rfl, this, hu]
theorem table {W : World} (h : laidMetH Tryd.prog Rows.classifyLegendRow.laid W) : Table W := by
  obtain ⟨ps, ⟨g', t', cs, fuel, p, q, hg', ht', hvar, hd, _, _⟩, _⟩ := (show laidMet Tryd.prog Rows.classifyLegendRow.laid W from h)
  obtain rfl := Option.some.inj (gLegend.symm.trans hg')
  obtain rfl := Option.some.inj (gLegendType.symm.trans ht')
  obtain ⟨xs, m, _, hx, hcl, hxl, hel⟩ := DataW.trod_array Tryd.underlying26 hd
  rw [cells26] at hcl
  rw [cells22] at hel
  have c0 := World.var?_cell gLegend hvar 0
  have c1 := World.var?_cell gLegend hvar 1
  have hx := congrArg Prod.fst hx
  obtain ⟨v0, v1, rfl⟩ : ∃ v0 v1, cs = #[v0, v1] := by
    rcases cs with ⟨l⟩
    simp only at hcl
    match l, hcl with
    | [a, b], _ => exact ⟨a, b, rfl⟩
  match xs, hxl with
  | [y0, y1], _ =>
    simp only [Rows.laid_glossator_classify_legend, List.map_cons, List.map_nil, DataW.agg.injEq, List.cons.injEq, and_true] at hx
    have e0 := hel 0 (by omega)
    have e1 := hel 1 (by omega)
    simp at e0 e1 c0 c1
    obtain ⟨ad0, k0, q0, l0, r0⟩ := strings_of (l := TY) (sp := []) (p := y0.2) (by decide) (e0.trans (by
      congr 1
      exact Prod.ext hx.1.symm rfl))
    obtain ⟨ad1, k1, q1, l1, r1⟩ := strings_of (l := MD) (sp := []) (p := y1.2) (by decide) (e1.trans (by
      congr 1
      exact Prod.ext hx.2.symm rfl))
    simp only [List.cons.injEq, and_true] at q0 q1
    subst q0 q1
    exact ⟨⟨ad0, k0, c0, l0, r0⟩, ad1, k1, c1, l1, r1⟩
/-- What the walk gives. -/
theorem contract (H : Type) (enc : TypeId × Value → H) (W : World) (base : Nat) (args : Array Value) (ds gs : List (DataW H)) (before : List MemPlace)
    (hval : ∀ (j : Nat) t v, Tryd.f3.params[j]? = some t → args[j]? = some v → Value.okWide Tryd.prog W .any base t v)
    (hW : DataW.Whole enc Tryd.prog Tryd.f3.params.toList Rows.classifyLegendSpec.vars false W args.toList ds gs before) (hL : laidMetH Tryd.prog Rows.classifyLegendRow.laid W) :
    Calls Tryd.prog 3 args W fun e W' => ∃ v, e = .returned v ∧ Rows.classifyLegendSpec.post enc Tryd.prog Tryd.f3 false true false false W args v W' := by
  have hW' := hW
  obtain ⟨p, q, hA0, hV, rfl, hfz, hnd⟩ := hW
  have hA : DataW.TrodAll enc Tryd.prog W 0 (fun _ => true) true Tryd.f3.params.toList args.toList ds p := hA0
  rw [Tryd.params3] at hA hval
  obtain ⟨hargs, rfl, rfl⟩ := trodAll_nil hA
  obtain rfl : args = #[] := by cases args; simp_all
  obtain ⟨rfl, rfl⟩ := trodVars_none hV
  clear hA0
  refine (legend_calls W (table hL)).mono ?_
  rintro e W' ⟨rfl, bel⟩
  exact ⟨_, rfl, _, _, _, [], _, [], hW', trodAll_mk1 (shut_bool Tryd.underlying4 _), trodAll_mk0, rfl, bel.frame _, fun h => by cases h⟩
/-- A world for the witness. -/
noncomputable def laidWorld (os : Os) : World :=
  { World.holding Tryd.prog os ⟨#[], #[], []⟩ with heap := (((World.holding Tryd.prog os ⟨#[], #[], []⟩).heap.modify 0 fun
      | .cells _ t frozen => .cells #[.slice (some ⟨(World.holding Tryd.prog os ⟨#[], #[], []⟩).heap.size, 0, none⟩) 8 8, .slice (some ⟨(World.holding Tryd.prog os ⟨#[], #[], []⟩).heap.size + 1, 0, none⟩) 3 3] t frozen
      | o => o).push (.cells (TY.map Value.string).toArray 9 (0, 0))).push (.cells (MD.map Value.string).toArray 9 (0, 0)) }
theorem laid_met (os : Os) : laidMet Tryd.prog Rows.classifyLegendRow.laid ((laidWorld os).forCall (fun _ _ => 0) ⟨#[], #[], []⟩).memory :=
  laidMet_of_run' 8 (by kernel_rfl) (by kernel_rfl)
theorem reads (os : Os) {H : Type} (enc : TypeId × Value → H) : ∃ places, DataW.whole enc Tryd.prog ((laidWorld os).forCall (fun _ _ => 0) ⟨#[], #[], []⟩).memory Tryd.f3.params.toList Rows.classifyLegendSpec.vars false (#[] : Array Value).toList 8 = some ([], [], places) :=
  ⟨[], by kernel_rfl⟩
set_option maxRecDepth 100000 in
theorem lifted (os : Os) (started : os.Started) (H : Type) (enc : TypeId × Value → H) (F : Stop.Interp) :
    ReturnsInHanded {} Tryd.checked os 3 .any ((OpenSpec.ofChange Rows.classifyLegendSpec).preRow enc Tryd.prog Tryd.f3 Rows.classifyLegendRow.domain false Rows.classifyLegendRow.laid) (((OpenSpec.ofChange Rows.classifyLegendSpec).at F).post enc Tryd.prog Tryd.f3 false true false false) := by
  obtain ⟨places, hx⟩ := reads os enc
  refine returnsInHanded_of_row (C := Tryd.checked) (s := OpenSpec.ofChange Rows.classifyLegendSpec) own started (by kernel_rfl) Tryd.func3
    (witness_row_atRef (enc := enc) (C := Tryd.checked) false (laidWorld os) #[] rfl (by kernel_rfl) (by kernel_rfl) (by kernel_rfl)
      (OpenSpec.preRow_of_cond 8 hx (by kernel_rfl) (fun k hk => by cases hk) (by kernel_rfl) (laid_met os))) ?_
  intro W base args ds gs before hval hW _ _ _ hL _ _
  exact contract H enc W base args ds gs before hval hW hL
theorem said : Rows.ClassifyLegendSaid :=
  OpenClaim.holds_of_cond 3 Tryd.f3 rfl rfl rfl rfl rfl rfl rfl ⟨rfl, rfl, rfl, rfl, rfl⟩ rfl rfl rfl rfl rfl (by kernel_rfl) Tryd.func3 (by kernel_rfl)
    (of_decide_eq_true (by kernel_rfl)) (by unfold Func.isWrapper; first | (rw [if_pos (by decide +kernel)]; kernel_rfl) | (rw [if_neg (by decide +kernel)]; exact ⟨rfl, rfl⟩))
    (fun os started H enc _ F => by rw [OpenClaim.pre_eq_preRow]; exact lifted os started H enc F)
/-- No parameter wants a stand-in; the program's own looks are off. -/
theorem plain (f : FuncId) (fn : Func) (hf : Tryd.pinned.checked.prog.funcNamed "glossator/glossatorlaw22.ClassifyLegend" = some f) (hfn : Tryd.pinned.checked.prog.funcs[f]? = some fn) :
    false = Tryd.pinned.checked.prog.looks [] ∧ ∀ (j : Nat) t, fn.params[j]? = some t → Tryd.pinned.checked.prog.wantsStandIn t = false := by
  obtain rfl : f = 3 := Option.some.inj ((show Tryd.prog.funcNamed "glossator/glossatorlaw22.ClassifyLegend" = some 3 by kernel_rfl).symm.trans hf) |>.symm
  obtain rfl : fn = Tryd.f3 := (Option.some.inj (Tryd.func3.symm.trans hfn)).symm
  refine ⟨by kernel_rfl, fun j t ht => ?_⟩
  rw [Tryd.params3] at ht
  simp at ht
theorem card : Rows.ClassifyLegendCardSaid :=
  Claim7.holds_tied_plain_at .later [] _ _ _ _ said (fun _ h => by cases h) (by kernel_rfl) (fun _ h => by cases h) classifyLegend_row_tie rfl ⟨rfl, rfl⟩ (by kernel_rfl) rfl plain (by kernel_rfl)
#print axioms card
end Go.Proofs.YtejdjnfcfnppaaaDoor.classifyLegend
namespace Go.Proofs.YtejdjnfcfnppaaaDoor
/-- The card, under a short name, for the claim. -/
theorem classifyLegend_holds : Rows.ClassifyLegendCardSaid := classifyLegend.card
end Go.Proofs.YtejdjnfcfnppaaaDoor
