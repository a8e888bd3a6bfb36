/- The cursor's map: spots to parts; what it holds as a function. -/
import Derived.Test.YtghbfjmmjfklfaaQJ3
import Derived.Test.YtghbfjmmjfklfaaQHTreeIter
import Derived.DeepKeys4
import Derived.OpenShut
set_option linter.unusedVariables false
set_option linter.unusedSimpArgs false
namespace Go.Proofs.Ytghbfjmmjfklfaa.H
open Go.RowKit Go.Proofs.YtghbfjmmjfklfaaW.PrintWords Go.Proofs.YtghbfjmmjfklfaaW.PrintLast Go.Proofs.YtghbfjmmjfklfaaW.PrintMore
open Go.Maps (Keyed IsMap)
theorem spot_laid : laidOutB Try.prog = true := by kernel_rfl
theorem spot_row : (88 : TypeId) < Try.prog.types.size := of_decide_eq_true (by kernel_rfl)
theorem spot_wide : (match Try.prog.underlying 88 with | some (.array _ _) | some (.struct _) => true | _ => false) = true := by rw [Try.underlying88]
set_option maxRecDepth 100000 in
theorem spotLaw : Keyed Try.prog 88 := Keyed.of_law (deep_law_laid spot_laid (m := 2) (by omega) spot_row (by kernel_rfl) spot_wide)
def inI (a : Int) : Prop := -9223372036854775808 ≤ a ∧ a ≤ 9223372036854775807
theorem inI_wf {a : Int} (h : inI a) : (Lit.int .i64 a).wf = true := WalkArith.wf_i64 h
abbrev spotV (s : Int × Int) : Value := .agg #[.int .u8 s.1, .int .i64 s.2]
def inS (s : Int × Int) : Prop := (0 ≤ s.1 ∧ s.1 ≤ 255) ∧ inI s.2
theorem spotCells : Try.prog.cellsOf 88 = 2 := by kernel_rfl
theorem spotCells3 : Try.prog.cellsOf 3 = 1 := by kernel_rfl
theorem spotCells5 : Try.prog.cellsOf 5 = 1 := by kernel_rfl
theorem spotKeyT : Try.prog.keyType 88 = true := by kernel_rfl
theorem spotKey (s : Int × Int) (h : inS s) : ∃ l, keyOf Try.prog 88 (spotV s) = some l := by
  have w1 : (Lit.int .u8 s.1).wf = true := WalkArith.wf_u8 h.1
  have w2 := inI_wf h.2
  obtain ⟨n, hn⟩ : ∃ n, Try.prog.types.size + 1 = n + 1 + 1 := ⟨Try.prog.types.size - 1, by have h : 0 < Try.prog.types.size := Nat.lt_of_le_of_lt (Nat.zero_le _) spot_row; omega⟩
  unfold keyOf
  rw [Try.underlying88]
  simp only [spotKeyT, hn]
  have hf : (spotV s).formed Try.prog 88 = true := by simp [Value.formed, Try.underlying88, spotCells]
  simp only [hf, Bool.and_self, if_true]
  simp [Program.keyLits, Try.underlying88, spotCells, spotCells3, spotCells5, Try.underlying3, Try.underlying5, Value.cells, w1, w2]
theorem spotV_inj {s t : Int × Int} (h : spotV s = spotV t) : s = t := by
  injection h with h
  simp at h
  exact Prod.ext h.1 h.2
abbrev partV (T : AT) (n : Int) : Value := .agg #[.int .u8 T.k, .int .u8 T.w, .int .i64 T.wd, .slice T.A T.kids.length T.c, .int .i64 n]
abbrev nilP : Value := .agg #[.int .u8 0, .int .u8 0, .int .i64 0, .slice none 0 0, .int .i64 0]
abbrev PMap := Int × Int → Option (AT × Int)
abbrev nilA : AT × Int := (.node 0 0 0 none 0 [], 0)
abbrev pv (x : AT × Int) : Value := partV x.1 x.2
structure HoldsP (W : World) (b n : Nat) (M : PMap) : Prop where
  own : ∃ D, W.ownsMap Try.prog 88 rawE b n D ∧ ∀ s l, keyOf Try.prog 88 (spotV s) = some l → Maps.has D l = (M s).isSome ∧ mval D l nilP = pv ((M s).getD nilA)
section
variable {W W' : World} {b n : Nat} {M : PMap}
theorem HoldsP.keep (h : HoldsP W b n M) (hk : W'.heap[b]? = W.heap[b]?) : HoldsP W' b n M := by
  obtain ⟨D, ⟨es, clock, h1, h2⟩, hd⟩ := h.own
  exact ⟨D, ⟨es, clock, hk.trans h1, h2⟩, hd⟩
theorem HoldsP.lt (h : HoldsP W b n M) : b < W.heap.size := by
  obtain ⟨D, ho, _⟩ := h.own
  exact ho.lt
theorem HoldsP.below (h : HoldsP W b n M) (hb : Below W.heap.size W W') : HoldsP W' b n M := h.keep (hb.block b h.lt)
theorem HoldsP.start (W : World) : HoldsP (W.alloc (.map #[] 0)) W.heap.size 0 (fun _ => none) := ⟨.map [], World.ownsMap_made W Try.prog 88 rawE, fun s l h => ⟨rfl, mval_empty⟩⟩
theorem HoldsP.look_ok (h : HoldsP W b n M) (s : Int × Int) (hs : inS s) :
    (Instr.lookup 74 (.map (some b)) (spotV s) true).run Try.prog W = .ok (.tuple #[pv ((M s).getD nilA), .bool (M s).isSome]) W := by
  obtain ⟨l, hl⟩ := spotKey s hs
  obtain ⟨D, ho, hd⟩ := h.own
  rw [omap_look_ok ho spotLaw Try.underlying74 (by kernel_rfl) hl, (hd s l hl).2, (hd s l hl).1]
theorem HoldsP.store (h : HoldsP W b n M) (s : Int × Int) (hs : inS s) (v : AT × Int) (hn : n < maxLen) :
    ∃ W', (Instr.mapUpdate 74 (.map (some b)) (spotV s) (pv v)).run Try.prog W = .ok () W' ∧ HoldsP W' b (n + 1) (fun t => if t = s then some v else M t) ∧ W.mapTurned W' b := by
  obtain ⟨l, hl⟩ := spotKey s hs
  obtain ⟨D, ho, hd⟩ := h.own
  obtain ⟨W', hr, ho', ht⟩ := omap_store (val := pv v) ho spotLaw Try.underlying74 hn hl
  refine ⟨W', hr, ⟨_, ho', fun t l' hl' => ?_⟩, ht⟩
  by_cases e : t = s
  · subst e
    obtain rfl : l = l' := Option.some.inj (hl.symm.trans hl')
    rw [Maps.has_put_same ho.isMap (spotLaw.key hl), mval_put_same ho.isMap (spotLaw.key hl)]
    simp
  · have hne : l' ≠ l := fun e' => e (spotV_inj (spotLaw.inj hl (e' ▸ hl'))).symm
    rw [Maps.has_put_other hne, mval_put_other hne, (hd t l' hl').1, (hd t l' hl').2]
    simp [e]
theorem HoldsP.drop (h : HoldsP W b n M) (s : Int × Int) (hs : inS s) (ty : TypeId) :
    ∃ W', (Builtin.delete_ #[74, 88] ty #[.map (some b), spotV s]).run Try.prog W = .ok (.tuple #[]) W' ∧ HoldsP W' b n (fun t => if t = s then none else M t) ∧ W.mapTurned W' b := by
  obtain ⟨l, hl⟩ := spotKey s hs
  obtain ⟨D, ho, hd⟩ := h.own
  obtain ⟨W', hr, ho', ht⟩ := omap_delete ho spotLaw Try.underlying74 hl ty
  refine ⟨W', hr, ⟨_, ho', fun t l' hl' => ?_⟩, ht⟩
  by_cases e : t = s
  · subst e
    obtain rfl : l = l' := Option.some.inj (hl.symm.trans hl')
    rw [Maps.has_del_same, mval_del_same]
    simp only [if_true, Option.isSome_none, Option.getD_none, true_and]
    rfl
  · have hne : l' ≠ l := fun e' => e (spotV_inj (spotLaw.inj hl (e' ▸ hl'))).symm
    rw [Maps.has_del_other hne, mval_del_other hne, (hd t l' hl').1, (hd t l' hl').2]
    simp [e]
theorem HoldsP.congr {M' : PMap} (h : HoldsP W b n M) (e : M = M') : HoldsP W b n M' := e ▸ h
end
theorem wpL_append {P : Program} {w w' : World} {ops : Array Oper} {rest : List Oper} {o : Oper} {a : Act} {Q : Exit → Act → World → Prop} {v' : Value}
    (hg : o.guard = none) (s x : Operand) (t : TypeId) (hop : o.op = Op.call { callee := Callee.builtin Builtin.append, args := #[s, x], argTypes := #[t, t] })
    (hrun : (Builtin.append_ #[t, t] o.type #[a.eval s, a.eval x]).run P w = .ok v' w') (hK : wpList P ops Q rest (a.put o.dst v') w') : wpList P ops Q (o :: rest) a w := by
  refine wpList_plain hg fun K hK' => ?_
  unfold Oper.wp execOp
  simp only [hop, resolve, invoke, builtin, Sem.run_bind, Sem.run_pure, Result.andThen_ok, List.map_toArray, List.map_cons, List.map_nil, hrun]
  exact hK' _ _ hK
def clsN (k : Int) : List Int := if k = 53 ∨ k = 54 ∨ k = 56 ∨ k = 57 ∨ k = 58 ∨ k = 59 then [59] else if k = 52 then [59, 52] else if k = 60 then [60] else []
theorem clsN_byte (k : Int) : ∀ c ∈ clsN k, 0 ≤ c ∧ c ≤ 255 := by
  intro c hc
  unfold clsN at hc
  split at hc
  · simp at hc; omega
  · split at hc
    · simp at hc; omega
    · split at hc
      · simp at hc; omega
      · simp at hc
theorem clsN_len (k : Int) : (clsN k).length ≤ 2 := by unfold clsN; split <;> (try split) <;> (try split) <;> simp
theorem clsN_nodup (k : Int) : (clsN k).Nodup := by unfold clsN; split <;> (try split) <;> (try split) <;> simp
mutual
/-- How many tokens a tree has. -/
def cntT : AT → Int
  | .node k _ _ _ _ kids => if k < 50 then 1 else cntL kids
def cntL : List AT → Int
  | [] => 0
  | T :: r => cntT T + cntL r
end
mutual
def sizeT : AT → Nat
  | .node _ _ _ _ _ kids => 1 + sizeL kids
def sizeL : List AT → Nat
  | [] => 0
  | T :: r => sizeT T + sizeL r
end
mutual
theorem cntT_le : ∀ T : AT, 0 ≤ cntT T ∧ cntT T ≤ (sizeT T : Int)
  | .node k _ _ _ _ kids => by
    have := cntL_le kids
    simp only [cntT, sizeT]
    split <;> omega
theorem cntL_le : ∀ l : List AT, 0 ≤ cntL l ∧ cntL l ≤ (sizeL l : Int)
  | [] => by simp [cntL, sizeL]
  | T :: r => by
    have h1 := cntT_le T
    have h2 := cntL_le r
    simp only [cntL, sizeL]
    omega
end
def ahN (k at_ : Int) (M : PMap) : List Int := (clsN k).filter fun c => (M (c, at_)).isNone
def setM (M : PMap) (ah : List Int) (at_ : Int) (o : Option (AT × Int)) : PMap := fun s => if s.2 = at_ ∧ s.1 ∈ ah then o else M s
mutual
def addT : AT → Int → PMap → PMap
  | .node k w wd A c kids, at_, M => if k < 50 then M else
    setM (addL kids at_ (setM M (ahN k at_ M) at_ (some nilA))) (ahN k at_ M) at_ (if cntL kids = 0 then none else some (.node k w wd A c kids, cntL kids))
def addL : List AT → Int → PMap → PMap
  | [], _, M => M
  | T :: r, at_, M => addL r (at_ + cntT T) (addT T at_ M)
end
end Go.Proofs.Ytghbfjmmjfklfaa.H
