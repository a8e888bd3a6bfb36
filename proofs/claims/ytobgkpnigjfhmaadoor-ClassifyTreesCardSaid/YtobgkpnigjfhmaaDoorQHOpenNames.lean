/- How names read: declarations, uses. -/
import Derived.Test.YtobgkpnigjfhmaaDoorQHOpenRow
import Derived.Test.YtobgkpnigjfhmaaDoorQHClassOf
set_option linter.unusedVariables false
set_option linter.unusedSimpArgs false
namespace Go.Proofs.YtobgkpnigjfhmaaDoor.H
open Go.RowKit Go.ChangeShapes Go.WideShapes Go.Proofs.YtobgkpnigjfhmaaDoorW.PrintWords Go.Proofs.YtobgkpnigjfhmaaDoorW.PrintLast Go.Proofs.YtobgkpnigjfhmaaDoorW.PrintMore
instance : Inhabited S41 := ⟨z41⟩
instance : Inhabited S72 := ⟨z72⟩
instance : Inhabited S43 := ⟨z43⟩
theorem cells4 : Tryd.prog.cellsOf 4 = 1 := by kernel_rfl
theorem cellsDecl : Tryd.prog.cellsOf 72 = 4 := by kernel_rfl
theorem cellsBind : Tryd.prog.cellsOf 43 = 3 := by kernel_rfl
theorem cellsNames : Tryd.prog.cellsOf 26 = 2 := by kernel_rfl
theorem cellsDs : Tryd.prog.cellsOf 23 = 1 := by kernel_rfl
theorem cellsBs : Tryd.prog.cellsOf 24 = 1 := by kernel_rfl
theorem opens_bool {P : Program} {e : TypeId} (he : P.underlying e = some .bool) (hc : P.cellsOf e = 1) : Opens Kd.bool P e (fun _ => True) :=
  ⟨hc.symm, fun H enc w base spare held fuel cs x h _ => by
    obtain ⟨b, rfl, _⟩ := DataW.trod_bool he h
    exact ⟨b, rfl, trivial⟩⟩
theorem opensB : Opens Kd.bool Tryd.prog 4 (fun _ => True) := opens_bool Tryd.underlying4 cells4
set_option maxRecDepth 100000 in
theorem opensSpan : Opens k41 Tryd.prog 41 (fun t => inI t.f0 ∧ inI t.f1) := ⟨spCells.symm, fun H enc w base spare held fuel cs x h hz => by
  obtain ⟨y0, y1, n, rfl, hl, h0, h1⟩ := trod_struct2 Tryd.underlying41 h
  rw [spCells] at hl
  match cs, hl with
  | [c0, c1], _ =>
    simp only [cellsI] at h0 h1
    obtain ⟨f0, k0, p0⟩ := opensI.2 H enc w base spare held n _ _ h0 (fun m hm => hz m (by simp [DataW.weights, Tryd.underlying41, DataW.weightsEach, hm]))
    obtain ⟨f1, k1, p1⟩ := opensI.2 H enc w base spare held n _ _ h1 (fun m hm => hz m (by simp [DataW.weights, Tryd.underlying41, DataW.weightsEach, hm]))
    exact ⟨⟨f0, f1⟩, ⟨[c0], [c1], rfl, k0, k1⟩, inI_of p0, inI_of p1⟩⟩
set_option maxRecDepth 100000 in
theorem opensDecl : Opens k72 Tryd.prog 72 (fun t => inI t.f0.f0 ∧ inI t.f0.f1) := ⟨cellsDecl.symm, fun H enc w base spare held fuel cs x h hz => by
  obtain ⟨y0, y1, y2, n, rfl, hl, h0, h1, h2⟩ := Go.Deep.trod_struct3 Tryd.underlying72 h
  rw [cellsDecl] at hl
  match cs, hl with
  | [c0, c1, c2, c3], _ =>
    simp only [cellsI, cells4, cells5, spCells] at h0 h1 h2
    obtain ⟨f0, k0, p0⟩ := opensSpan.2 H enc w base spare held n _ _ h0 (fun m hm => hz m (by simp [DataW.weights, Tryd.underlying72, DataW.weightsEach, hm]))
    obtain ⟨f1, k1, p1⟩ := opens5.2 H enc w base spare held n _ _ h1 (fun m hm => hz m (by simp [DataW.weights, Tryd.underlying72, DataW.weightsEach, hm]))
    obtain ⟨f2, k2, p2⟩ := opensB.2 H enc w base spare held n _ _ h2 (fun m hm => hz m (by simp [DataW.weights, Tryd.underlying72, DataW.weightsEach, hm]))
    exact ⟨⟨f0, f1, f2⟩, ⟨[c0, c1], [c2, c3], rfl, k0, ⟨[c2], [c3], rfl, k1, k2⟩⟩, p0⟩⟩
set_option maxRecDepth 100000 in
theorem opensBind : Opens k43 Tryd.prog 43 (fun t => inI t.f0.f0 ∧ inI t.f0.f1) := ⟨cellsBind.symm, fun H enc w base spare held fuel cs x h hz => by
  obtain ⟨y0, y1, n, rfl, hl, h0, h1⟩ := trod_struct2 Tryd.underlying43 h
  rw [cellsBind] at hl
  match cs, hl with
  | [c0, c1, c2], _ =>
    simp only [cellsI, spCells] at h0 h1
    obtain ⟨f0, k0, p0⟩ := opensSpan.2 H enc w base spare held n _ _ h0 (fun m hm => hz m (by simp [DataW.weights, Tryd.underlying43, DataW.weightsEach, hm]))
    obtain ⟨f1, k1, p1⟩ := opensI.2 H enc w base spare held n _ _ h1 (fun m hm => hz m (by simp [DataW.weights, Tryd.underlying43, DataW.weightsEach, hm]))
    exact ⟨⟨f0, f1⟩, ⟨[c0, c1], [c2], rfl, k0, k1⟩, p0⟩⟩
theorem opensDs : Opens (Kd.slice 72 k72) Tryd.prog 23 (fun l => l.length * 24 ≤ 140737488351232 ∧ ∀ y ∈ l, inI y.f0.f0 ∧ inI y.f0.f1) := opens_slice Tryd.underlying23 cellsDs (by kernel_rfl) opensDecl
theorem opensBs : Opens (Kd.slice 43 k43) Tryd.prog 24 (fun l => l.length * 24 ≤ 140737488351232 ∧ ∀ y ∈ l, inI y.f0.f0 ∧ inI y.f0.f1) := opens_slice Tryd.underlying24 cellsBs (by kernel_rfl) opensBind
set_option maxRecDepth 100000 in
theorem opens_names {H : Type} {enc : TypeId × Value → H} {w : World} {base : Nat} {spare : Nat → Bool} {held : Bool} {cs : Array Value} {D : DataW H} {ps : List MemPlace} {ts : List TypeId} {ds : List (DataW H)} {j : Nat}
    (hsz : (DataW.weightsEach Tryd.prog ts ds).all (· ≤ reachBytes) = true) (hts : ts[j]? = some 26) (hds : ds[j]? = some D) (h : DataW.Trod enc Tryd.prog w base spare held 26 (.agg cs) D ps) :
    ∃ (ld : List S72) (lb : List S43) (A1 A2 : Option Addr) (c1 c2 : Nat), cs = #[.slice A1 ld.length c1, .slice A2 lb.length c2] ∧ ld.length ≤ c1 ∧ lb.length ≤ c2 ∧ Kd.C k72 w A1 ld.length ld ∧ Kd.C k43 w A2 lb.length lb ∧ inDs ld ∧ inBs lb ∧ ld.length ≤ 140737488351232 ∧ lb.length ≤ 140737488351232 := by
  obtain ⟨fuel, hf⟩ := h
  have hz : ∀ n ∈ D.weights Tryd.prog 26, n ≤ reachBytes := fun n hn => by
    have := List.all_eq_true.1 hsz n (DataW.weights_mem_each hts hds n hn)
    simpa using this
  obtain ⟨y0, y1, n, hx, hl, h0, h1⟩ := trod_struct2 Tryd.underlying26 hf
  simp only [Prod.mk.injEq] at hx
  obtain ⟨rfl, rfl⟩ := hx
  rw [cellsNames] at hl
  obtain ⟨cl⟩ := cs
  match cl, hl with
  | [a0, a1], _ =>
    simp only [Value.cells, cellsDs, cellsBs] at h0 h1
    obtain ⟨ld, ⟨A1, c1, e1, l1, C1⟩, b1, p1⟩ := opensDs.2 H enc w base spare held n _ _ h0 (fun m hm => hz m (by simp [DataW.weights, Tryd.underlying26, DataW.weightsEach, hm]))
    obtain ⟨lb, ⟨A2, c2, e2, l2, C2⟩, b2, p2⟩ := opensBs.2 H enc w base spare held n _ _ h1 (fun m hm => hz m (by simp [DataW.weights, Tryd.underlying26, DataW.weightsEach, hm]))
    simp at e1 e2
    subst e1 e2
    exact ⟨ld, lb, A1, A2, c1, c2, rfl, l1, l2, C1, C2, p1, p2, by omega, by omega⟩
theorem colTab_of {W : World} (h : Lib.TabIs Tryd.prog W "glossator/classify.colours" .i64 colTab) : ColTab W := by
  unfold Lib.TabIs World.var? at h
  rw [show Tryd.prog.globalNamed "glossator/classify.colours" = some 0 by kernel_rfl, Option.bind_some] at h
  cases hb : W.heap[0]? with
  | none => rw [hb] at h; cases h
  | some o =>
    rw [hb] at h
    cases o with
    | cells cs t fz =>
      simp only [Option.some.injEq] at h
      exact ⟨t, fz, by rw [hb, h]⟩
    | _ => cases h
end Go.Proofs.YtobgkpnigjfhmaaDoor.H
