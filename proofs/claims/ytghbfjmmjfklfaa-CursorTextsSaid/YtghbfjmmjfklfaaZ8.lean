/- Texts of this claim, merged. -/
import Derived.Test.YtghbfjmmjfklfaaZ7
import Derived.DeepKeys4
set_option linter.unusedVariables false
set_option linter.unusedSimpArgs false
namespace Go.Proofs.Ytghbfjmmjfklfaa.H
open Go.RowKit Go.Proofs.YtghbfjmmjfklfaaW.PrintWords Go.Proofs.YtghbfjmmjfklfaaW.PrintLast Go.Proofs.YtghbfjmmjfklfaaW.PrintMore
open Go.Maps (Keyed IsMap)
theorem spot_laid : laidOutB Try.prog = true := by kernel_rfl
theorem spot_row : (88 : TypeId) < Try.prog.types.size := of_decide_eq_true (by kernel_rfl)
theorem spot_wide : (match Try.prog.underlying 88 with | some (.array _ _) | some (.struct _) => true | _ => false) = true := by rw [Try.underlying88]
set_option maxRecDepth 100000 in
theorem spotLaw : Keyed Try.prog 88 := Keyed.of_law (deep_law_laid spot_laid (m := 2) (by omega) spot_row (by kernel_rfl) spot_wide)
def inI (a : Int) : Prop := -9223372036854775808 ≤ a ∧ a ≤ 9223372036854775807
theorem inI_wf {a : Int} (h : inI a) : (Lit.int .i64 a).wf = true := WalkArith.wf_i64 h
abbrev spotV (s : Int × Int) : Value := .agg #[.int .u8 s.1, .int .i64 s.2]
def inS (s : Int × Int) : Prop := (0 ≤ s.1 ∧ s.1 ≤ 255) ∧ inI s.2
theorem spotCells : Try.prog.cellsOf 88 = 2 := by kernel_rfl
theorem spotCells3 : Try.prog.cellsOf 3 = 1 := by kernel_rfl
theorem spotCells5 : Try.prog.cellsOf 5 = 1 := by kernel_rfl
theorem spotKeyT : Try.prog.keyType 88 = true := by kernel_rfl
theorem spotKey (s : Int × Int) (h : inS s) : ∃ l, keyOf Try.prog 88 (spotV s) = some l := by
 have w1 : (Lit.int .u8 s.1).wf = true := WalkArith.wf_u8 h.1; have w2 := inI_wf h.2; obtain ⟨n, hn⟩ : ∃ n, Try.prog.types.size + 1 = n + 1 + 1 := ⟨Try.prog.types.size - 1, by have h : 0 < Try.prog.types.size := Nat.lt_of_le_of_lt (Nat.zero_le _) spot_row; omega⟩
 unfold keyOf
 rw [Try.underlying88]; simp only [spotKeyT, hn]; have hf : (spotV s).formed Try.prog 88 = true := by simp [Value.formed, Try.underlying88, spotCells]
 simp only [hf, Bool.and_self, if_true]; simp [Program.keyLits, Try.underlying88, spotCells, spotCells3, spotCells5, Try.underlying3, Try.underlying5, Value.cells, w1, w2]
theorem spotV_inj {s t : Int × Int} (h : spotV s = spotV t) : s = t := by
 injection h with h
 simp at h; exact Prod.ext h.1 h.2
abbrev partV (T : AT) (n : Int) : Value := .agg #[.int .u8 T.k, .int .u8 T.w, .int .i64 T.wd, .slice T.A T.kids.length T.c, .int .i64 n]
abbrev nilP : Value := .agg #[.int .u8 0, .int .u8 0, .int .i64 0, .slice none 0 0, .int .i64 0]
abbrev PMap := Int × Int → Option (AT × Int)
abbrev nilA : AT × Int := (.node 0 0 0 none 0 [], 0)
abbrev pv (x : AT × Int) : Value := partV x.1 x.2
structure zbX (W : World) (b n : Nat) (M : PMap) : Prop where
 own : ∃ D, W.ownsMap Try.prog 88 rawE b n D ∧ ∀ s l, keyOf Try.prog 88 (spotV s) = some l → Maps.has D l = (M s).isSome ∧ mval D l nilP = pv ((M s).getD nilA)
section
variable {W W' : World} {b n : Nat} {M : PMap}
theorem zbX.keep (h : zbX W b n M) (hk : W'.heap[b]? = W.heap[b]?) : zbX W' b n M := by
 obtain ⟨D, ⟨es, clock, h1, h2⟩, hd⟩ := h.own; exact ⟨D, ⟨es, clock, hk.trans h1, h2⟩, hd⟩
theorem zbX.lt (h : zbX W b n M) : b < W.heap.size := by
 obtain ⟨D, ho, _⟩ := h.own; exact ho.lt
theorem zbX.below (h : zbX W b n M) (hb : Below W.heap.size W W') : zbX W' b n M := h.keep (hb.block b h.lt)
theorem zbX.start (W : World) : zbX (W.alloc (.map #[] 0)) W.heap.size 0 (fun _ => none) := ⟨.map [], World.ownsMap_made W Try.prog 88 rawE, fun s l h => ⟨rfl, mval_empty⟩⟩
theorem zbX.look_ok (h : zbX W b n M) (s : Int × Int) (hs : inS s) :
  (Instr.lookup 74 (.map (some b)) (spotV s) true).run Try.prog W = .ok (.tuple #[pv ((M s).getD nilA), .bool (M s).isSome]) W := by
 obtain ⟨l, hl⟩ := spotKey s hs; obtain ⟨D, ho, hd⟩ := h.own; rw [omap_look_ok ho spotLaw Try.underlying74 (by kernel_rfl) hl, (hd s l hl).2, (hd s l hl).1]
theorem zbX.store (h : zbX W b n M) (s : Int × Int) (hs : inS s) (v : AT × Int) (hn : n < maxLen) :
  ∃ W', (Instr.mapUpdate 74 (.map (some b)) (spotV s) (pv v)).run Try.prog W = .ok () W' ∧ zbX W' b (n + 1) (fun t => if t = s then some v else M t) ∧ W.mapTurned W' b := by
 obtain ⟨l, hl⟩ := spotKey s hs; obtain ⟨D, ho, hd⟩ := h.own; obtain ⟨W', hr, ho', ht⟩ := omap_store (val := pv v) ho spotLaw Try.underlying74 hn hl; refine ⟨W', hr, ⟨_, ho', fun t l' hl' => ?_⟩, ht⟩
 by_cases e : t = s
 ·subst e
  obtain rfl : l = l' := Option.some.inj (hl.symm.trans hl'); rw [Maps.has_put_same ho.isMap (spotLaw.key hl), mval_put_same ho.isMap (spotLaw.key hl)]; simp
 ·have hne : l' ≠ l := fun e' => e (spotV_inj (spotLaw.inj hl (e' ▸ hl'))).symm
  rw [Maps.has_put_other hne, mval_put_other hne, (hd t l' hl').1, (hd t l' hl').2]; simp [e]
theorem zbX.drop (h : zbX W b n M) (s : Int × Int) (hs : inS s) (ty : TypeId) :
  ∃ W', (Builtin.delete_ #[74, 88] ty #[.map (some b), spotV s]).run Try.prog W = .ok (.tuple #[]) W' ∧ zbX W' b n (fun t => if t = s then none else M t) ∧ W.mapTurned W' b := by
 obtain ⟨l, hl⟩ := spotKey s hs; obtain ⟨D, ho, hd⟩ := h.own; obtain ⟨W', hr, ho', ht⟩ := omap_delete ho spotLaw Try.underlying74 hl ty; refine ⟨W', hr, ⟨_, ho', fun t l' hl' => ?_⟩, ht⟩
 by_cases e : t = s
 ·subst e
  obtain rfl : l = l' := Option.some.inj (hl.symm.trans hl'); rw [Maps.has_del_same, mval_del_same]; simp only [if_true, Option.isSome_none, Option.getD_none, true_and]
  rfl
 ·have hne : l' ≠ l := fun e' => e (spotV_inj (spotLaw.inj hl (e' ▸ hl'))).symm
  rw [Maps.has_del_other hne, mval_del_other hne, (hd t l' hl').1, (hd t l' hl').2]; simp [e]
theorem zbX.congr {M' : PMap} (h : zbX W b n M) (e : M = M') : zbX W b n M' := e ▸ h
end
theorem wpL_append {P : Program} {w w' : World} {ops : Array Oper} {rest : List Oper} {o : Oper} {a : Act} {Q : Exit → Act → World → Prop} {v' : Value}
  (hg : o.guard = none) (s x : Operand) (t : TypeId) (hop : o.op = Op.call { callee := Callee.builtin Builtin.append, args := #[s, x], argTypes := #[t, t] })
  (hrun : (Builtin.append_ #[t, t] o.type #[a.eval s, a.eval x]).run P w = .ok v' w') (hK : wpList P ops Q rest (a.put o.dst v') w') : wpList P ops Q (o :: rest) a w := by
 refine wpList_plain hg fun K hK' => ?_
 unfold Oper.wp execOp
 simp only [hop, resolve, invoke, builtin, Sem.run_bind, Sem.run_pure, Result.andThen_ok, List.map_toArray, List.map_cons, List.map_nil, hrun]; exact hK' _ _ hK
def clsN (k : Int) : List Int := if k = 53 ∨ k = 54 ∨ k = 56 ∨ k = 57 ∨ k = 58 ∨ k = 59 then [59] else if k = 52 then [59, 52] else if k = 60 then [60] else []
theorem clsN_byte (k : Int) : ∀ c ∈ clsN k, 0 ≤ c ∧ c ≤ 255 := by
 intro c hc
 unfold clsN at hc
 split at hc
 ·simp at hc; omega
 ·split at hc
  ·simp at hc; omega
  ·split at hc
   ·simp at hc; omega
   ·simp at hc
theorem clsN_len (k : Int) : (clsN k).length ≤ 2 := by unfold clsN; split <;> (try split) <;> (try split) <;> simp
theorem clsN_nodup (k : Int) : (clsN k).Nodup := by unfold clsN; split <;> (try split) <;> (try split) <;> simp
mutual
def cntT : AT → Int
 | .node k _ _ _ _ kids => if k < 50 then 1 else cntL kids
def cntL : List AT → Int
 | [] => 0
 | T :: r => cntT T + cntL r
end
mutual
def sizeT : AT → Nat
 | .node _ _ _ _ _ kids => 1 + sizeL kids
def sizeL : List AT → Nat
 | [] => 0
 | T :: r => sizeT T + sizeL r
end
mutual
theorem cntT_le : ∀ T : AT, 0 ≤ cntT T ∧ cntT T ≤ (sizeT T : Int)
 | .node k _ _ _ _ kids => by
  have := cntL_le kids; simp only [cntT, sizeT]
  split <;> omega
theorem cntL_le : ∀ l : List AT, 0 ≤ cntL l ∧ cntL l ≤ (sizeL l : Int)
 | [] => by simp [cntL, sizeL]
 | T :: r => by
  have h1 := cntT_le T; have h2 := cntL_le r; simp only [cntL, sizeL]; omega
end
def ahN (k at_ : Int) (M : PMap) : List Int := (clsN k).filter fun c => (M (c, at_)).isNone
def setM (M : PMap) (ah : List Int) (at_ : Int) (o : Option (AT × Int)) : PMap := fun s => if s.2 = at_ ∧ s.1 ∈ ah then o else M s
mutual
def addT : AT → Int → PMap → PMap
 | .node k w wd A c kids, at_, M => if k < 50 then M else
  setM (addL kids at_ (setM M (ahN k at_ M) at_ (some nilA))) (ahN k at_ M) at_ (if cntL kids = 0 then none else some (.node k w wd A c kids, cntL kids))
def addL : List AT → Int → PMap → PMap
 | [], _, M => M
 | T :: r, at_, M => addL r (at_ + cntT T) (addT T at_ M)
end
end Go.Proofs.Ytghbfjmmjfklfaa.H
namespace Go.Proofs.Ytghbfjmmjfklfaa.H
open Go.RowKit Go.Proofs.YtghbfjmmjfklfaaW.PrintWords Go.Proofs.YtghbfjmmjfklfaaW.PrintLast Go.Proofs.YtghbfjmmjfklfaaW.PrintMore
theorem classes_f (k : Int) : zaY.f 1 k = some (clsN k) := by
 unfold zaY.f clsN
 simp only [zaY.j0]; by_cases c1 : k = 53
 ·simp [c1]
 by_cases c2 : k = 54
 ·simp [c2]
 by_cases c3 : k = 56
 ·simp [c3]
 by_cases c4 : k = 57
 ·simp [c4]
 by_cases c5 : k = 58
 ·simp [c5]
 by_cases c6 : k = 59
 ·simp [c6]
 simp only [if_neg c1, if_neg c2, if_neg c3, if_neg c4, if_neg c5]; have : (k == 59) = false := by simp [c6]
 rw [this]; simp [c1, c2, c3, c4, c5, c6]
 split
 ·rfl
 ·split <;> rfl
theorem mixE : Try.prog.follows .mixedOrders = true := by kernel_rfl
abbrev curO (fi oe ne : Int) (b : Nat) (Ab : Option Addr) (nb cb : Nat) (tk : Int) : Obj := .cells #[.int .i64 fi, .int .i64 oe, .int .i64 ne, .map (some b), .slice Ab nb cb, .int .i64 tk] 77 (0, 0)
theorem infoSpot : (Try.prog.info? 88).map (fun i => (i.zero, i.size, i.bytes)) = some (some (.agg #[.int .u8 0, .int .i64 0]), 2, 16) := by kernel_rfl
abbrev spotC (at_ : Int) (c : Int) : List Value := [.int .u8 c, .int .i64 at_]
theorem setM_nil (M : PMap) (at_ : Int) (o : Option (AT × Int)) : setM M [] at_ o = M := by funext s; simp [setM]
theorem setM_snoc (M : PMap) (ah : List Int) (c at_ : Int) (o : Option (AT × Int)) : setM M (ah ++ [c]) at_ o = fun t => if t = (c, at_) then o else setM M ah at_ o t := by
 funext t
 unfold setM
 by_cases e : t = (c, at_)
 ·subst e; simp
 ·rw [if_neg e]
  have : ¬ (t.2 = at_ ∧ t.1 = c) := fun h => e (Prod.ext h.2 h.1)
  by_cases h1 : t.2 = at_
  ·have h2 : ¬ t.1 = c := fun h => this ⟨h1, h⟩
   simp [h1, h2]
  ·simp [h1]
theorem setM_other {M : PMap} {ah : List Int} {c at_ : Int} {o : Option (AT × Int)} (h : c ∉ ah) : setM M ah at_ o (c, at_) = M (c, at_) := by unfold setM; rw [if_neg (fun e => h e.2)]
def ahs (k at_ : Int) (M : PMap) (i : Nat) : List Int := ((clsN k).take i).filter fun c => (M (c, at_)).isNone
theorem ahs_zero (k at_ : Int) (M : PMap) : ahs k at_ M 0 = [] := by simp [ahs]
theorem ahs_all (k at_ : Int) (M : PMap) : ahs k at_ M (clsN k).length = ahN k at_ M := by simp [ahs, ahN]
theorem ahs_succ (k at_ : Int) (M : PMap) (i : Nat) (c : Int) (h : (clsN k)[i]? = some c) : ahs k at_ M (i + 1) = ahs k at_ M i ++ if (M (c, at_)).isNone then [c] else [] := by
 unfold ahs
 rw [List.take_add_one, h, List.filter_append]
 congr 1
 simp only [Option.toList, List.filter_cons, List.filter_nil]
theorem ahs_fresh (k at_ : Int) (M : PMap) (i : Nat) (c : Int) (h : (clsN k)[i]? = some c) : c ∉ ahs k at_ M i := by
 intro hm
 have hm' := (List.mem_filter.1 hm).1; obtain ⟨j, hj, e⟩ := List.mem_take_iff_getElem.1 hm'; obtain ⟨hi, e'⟩ := List.getElem?_eq_some_iff.1 h; have := (List.nodup_iff_pairwise_ne.1 (clsN_nodup k)); exact absurd (e.trans e'.symm) (List.pairwise_iff_getElem.1 this j i (by omega) hi (by omega))
theorem ahs_len (k at_ : Int) (M : PMap) (i : Nat) : (ahs k at_ M i).length ≤ 2 := by
 unfold ahs
 exact Nat.le_trans (List.length_filter_le _ _) (Nat.le_trans (List.length_take_le' _ _) (clsN_len k))
theorem sizeL_take : ∀ (l : List AT) (i : Nat) (T : AT), l[i]? = some T → sizeL (l.take (i + 1)) = sizeL (l.take i) + sizeT T
 | [], i, T, h => by simp at h
 | x :: r, 0, T, h => by simp at h; subst h; simp [sizeL]
 | x :: r, i + 1, T, h => by
  have := sizeL_take r i T (by simpa using h)
  simp only [List.take_succ_cons, sizeL, this]; omega
theorem cntL_take : ∀ (l : List AT) (i : Nat) (T : AT), l[i]? = some T → cntL (l.take (i + 1)) = cntL (l.take i) + cntT T
 | [], i, T, h => by simp at h
 | x :: r, 0, T, h => by simp at h; subst h; simp [cntL]
 | x :: r, i + 1, T, h => by
  have := cntL_take r i T (by simpa using h)
  simp only [List.take_succ_cons, cntL, this]; omega
theorem sizeL_mono : ∀ (l : List AT) (i : Nat), sizeL (l.take i) ≤ sizeL l
 | [], i => by simp
 | x :: r, 0 => by simp [sizeL]
 | x :: r, i + 1 => by
  have := sizeL_mono r i; simp only [List.take_succ_cons, sizeL]; omega
theorem sizeL_len : ∀ (l : List AT), l.length ≤ sizeL l
 | [] => by simp
 | x :: r => by
  have := sizeL_len r; cases x; simp only [List.length_cons, sizeL, sizeT]; omega
theorem addL_drop (l : List AT) (i : Nat) (T : AT) (at_ : Int) (M : PMap) (h : l[i]? = some T) : addL (l.drop i) (at_ + cntL (l.take i)) M = addL (l.drop (i + 1)) (at_ + cntL (l.take (i + 1))) (addT T (at_ + cntL (l.take i)) M) := by
 obtain ⟨hi, rfl⟩ := List.getElem?_eq_some_iff.1 h; rw [List.drop_eq_getElem_cons hi, addL, cntL_take l i _ h, Int.add_assoc]
structure CA (W w : World) (g : Nat) (o : Obj) (b n : Nat) (M : PMap) : Prop where
 gr : W.grownBy w (some b)
 cur : w.heap[g]? = some o
 map : zbX w b n M
theorem CA.below {W w w' : World} {g b n : Nat} {o : Obj} {M : PMap} (h : CA W w g o b n M) (hb : Below w.heap.size w w') : CA W w' g o b n M :=
 ⟨World.grownBy.trans h.gr (za8 hb _), zaU h.cur hb, h.map.below hb⟩
theorem CA.turn {W w w' : World} {g b n n' : Nat} {o : Obj} {M M' : PMap} (h : CA W w g o b n M) (hm : zbX w' b n' M') (hg : w.grownBy w' (some b)) (hne : g ≠ b) : CA W w' g o b n' M' :=
 ⟨World.grownBy.trans h.gr hg, (hg.block _ (zaM h.cur) (fun e => hne (Option.some.inj e))).trans h.cur, hm⟩
theorem CA.low {W0 W w : World} {g b n : Nat} {o : Obj} {M : PMap} (h : CA W w g o b n M) (hl : Below W0.heap.size W0 W) (hb : W0.heap.size ≤ b) : Below W0.heap.size W0 w :=
 hl.grown h.gr hl.size (fun k hk => by injection hk with hk; omega)
theorem CA.row {W w w' : World} {g b n : Nat} {o : Obj} {M : PMap} {row : Option Nat} (h : CA W w g o b n M) (hg : w.grownBy w' row) (hr : ∀ q, row = some q → W.heap.size ≤ q ∧ q ≠ g ∧ q ≠ b) : CA W w' g o b n M :=
 ⟨⟨hg.os.trans h.gr.os, hg.tape.trans h.gr.tape, hg.output.trans h.gr.output, Nat.le_trans h.gr.size hg.size, fun q hq hne => (hg.block q (Nat.lt_of_lt_of_le hq h.gr.size) (fun e => by have := (hr q e.symm).1; omega)).trans (h.gr.block q hq hne)⟩,
  (hg.block _ (zaM h.cur) (fun e => (hr _ e.symm).2.1 rfl)).trans h.cur, h.map.keep (hg.block _ h.map.lt (fun e => (hr _ e.symm).2.2 rfl))⟩
theorem CA.cells {W w : World} {g b n : Nat} {fi oe ne tk : Int} {Ab : Option Addr} {nb cb : Nat} {M : PMap} (h : CA W w g (curO fi oe ne b Ab nb cb tk) b n M) : w.cell? ⟨g, 3, none⟩ = some (.map (some b)) := by
 have := zae h.cur 3
 simpa using this
theorem u8_at {W : World} {A : Option Addr} {l : List Int} (h : Kd.C (Kd.int .u8) W A l.length l) (i : Nat) (hi : i < l.length) : ∃ ad, A = some ad ∧ W.cell? (ad.add i) = some (.int .u8 (l.getD i 0)) := by
 obtain ⟨ad, c, e, _, hK, hc⟩ := Kd.C_get h 0 (i : Int) (by omega) (by omega)
 rw [Int.toNat_natCast] at hK hc; obtain rfl : c = [.int .u8 (l.getD i 0)] := hK; exact ⟨ad, e, by simpa [show (Kd.int .u8).sz = 1 from rfl] using hc 0 _ rfl⟩
theorem spot_at {W : World} {A : Option Addr} {at_ : Int} {l : List Int} (h : Kd.C (Kd.raw 2) W A (l.map (spotC at_)).length (l.map (spotC at_))) (i : Nat) (hi : i < l.length) : ∃ ad, A = some ad ∧ W.cell? (ad.add (i * 2)) = some (.int .u8 (l.getD i 0)) ∧ W.cell? ⟨(ad.add (i * 2)).block, (ad.add (i * 2)).off + 1, none⟩ = some (.int .i64 at_) := by
 obtain ⟨ad, c, e, _, hK, hc0⟩ := Kd.C_get h (spotC at_ 0) (i : Int) (by omega) (by simpa using hi)
 have hc : ∀ j u, c[j]? = some u → W.cell? (ad.add (i * 2 + j)) = some u := fun j u hu => by have := hc0 j u hu; rw [Int.toNat_natCast] at this; exact this
 have hc' : c = spotC at_ (l.getD i 0) := by
  have h1 := hK.1; rw [h1, Int.toNat_natCast, List.getD_eq_getElem?_getD, List.getElem?_map, List.getElem?_eq_getElem hi]; simp [List.getD_eq_getElem?_getD, List.getElem?_eq_getElem hi]
 subst hc'; exact ⟨ad, e, by simpa using hc 0 _ rfl, by rw [← zbp _ _ 1 (by omega)]; exact hc 1 _ rfl⟩
theorem grown_row2 {W Y w : World} {row r2 : Option Nat} (h : W.grownBy Y row) (hg : Y.grownBy w r2) (hr : ∀ q, r2 = some q → W.heap.size ≤ q) : W.grownBy w row :=
 ⟨hg.os.trans h.os, hg.tape.trans h.tape, hg.output.trans h.output, Nat.le_trans h.size hg.size, fun q hq hne => (hg.block q (Nat.lt_of_lt_of_le hq h.size) (fun e => by have := hr q e.symm; omega)).trans (h.block q hq hne)⟩
theorem spot_app {w2 wr Y : World} {m ca : Nat} {Aa : Option Addr} {at_ c : Int} {L : List Int} (hrow : Kd.R (Kd.raw 2) 88 wr w2.heap.size (fun q => w2.heap.size ≤ q) (.slice Aa m ca) (L.map (spotC at_))) (hsz : w2.heap.size ≤ wr.heap.size) (hbY : Below wr.heap.size wr Y) (hL : L.length ≤ 2) :
  ∃ g cap w1, (Builtin.append_ #[107, 107] 107 #[.slice Aa m ca, .slice (some ⟨Y.heap.size, 0, none⟩) 1 1]).run Try.prog (Y.alloc (.cells #[.int .u8 c, .int .i64 at_] 88)) = .ok (.slice (some ⟨g, 0, none⟩) (m + 1) cap) w1 ∧ Y.grownBy w1 (Value.slice Aa m ca).ownBlock ∧ (∀ q, (Value.slice Aa m ca).ownBlock = some q → w2.heap.size ≤ q) ∧
   Kd.R (Kd.raw 2) 88 w1 w2.heap.size (fun q => w2.heap.size ≤ q) (.slice (some ⟨g, 0, none⟩) (m + 1) cap) ((L ++ [c]).map (spotC at_)) := by
 obtain ⟨Z, hZ⟩ : ∃ Z, Z = Y.alloc (.cells #[.int .u8 c, .int .i64 at_] 88) := ⟨_, rfl⟩; have hbZ : Below Y.heap.size Y Z := by rw [hZ]; exact zad (Below.refl _ _) _
 have hs := hbY.size; obtain ⟨g, cap, w1, hrun, hg, hgo, hbg, hnl, hR1⟩ := append_elem (Kd.raw 2) 88 107 (Kd.zbE hrow hbY) (by omega) (fun k hk => by omega) Try.underlying107 infoSpot rfl (by decide) (by decide) (by rw [List.length_map]; omega) hbZ (spotC at_ c) (spotC at_ c) (by rw [hZ]; exact heap_alloc_new _ _) ⟨rfl, rfl, by intro u hu; simp at hu; rcases hu with rfl | rfl <;> rfl⟩ rfl (by intro u hu; simp at hu; rcases hu with rfl | rfl <;> rfl)
 exact ⟨g, cap, w1, by rw [← hZ]; exact hrun, hg, fun q hq => hrow.1 q hq, by rw [List.map_append, List.map_singleton]; exact hR1⟩
set_option maxHeartbeats 8000000 in
set_option maxRecDepth 100000 in
theorem cadd_calls (W0 : World) (z : Nat) : ∀ (T : AT), SizeOf.sizeOf T < z → AtT W0 T → ∀ (at_ : Int) (g b n : Nat) (fi oe ne tk : Int) (Ab : Option Addr) (nb cb : Nat) (M : PMap) (W : World), Below W0.heap.size W0 W → W0.heap.size ≤ b → g ≠ b →
  W.heap[g]? = some (curO fi oe ne b Ab nb cb tk) → zbX W b n M → 0 ≤ at_ → at_ + sizeT T ≤ 1000000000 → n + 4 * sizeT T ≤ 1000000000 →
  Calls Try.prog 39 #[.pointer (some ⟨g, 0, none⟩), T.val, .int .i64 at_] W fun e W' => e = .returned (.int .i64 (cntT T)) ∧ ∃ n', n' ≤ n + 4 * sizeT T ∧ CA W W' g (curO fi oe ne b Ab nb cb tk) b n' (addT T at_ M) := by
 induction z with
 | zero => intro T h; exact absurd h (Nat.not_lt_zero _)
 | succ z ih =>
 rintro ⟨k, w1, wd, A, c, kids⟩ hz hT at_ g b n fi oe ne tk Ab nb cb M W hlow hb hgb hcur hmap hat has hns
 simp only [AT.val, AT.k, AT.w, AT.wd, AT.A, AT.c, AT.kids]; have IH := zaa.mk ih; have HZ := zaa.mk hz; have HT := zaa.mk hT; have HLOW := zaa.mk hlow; have HB := zaa.mk hb; have HMAP := zaa.mk hmap; have HCUR := zaa.mk hcur; simp only [sizeT] at has hns; have HAS := zaa.mk has; have HNS := zaa.mk hns; obtain ⟨X, hX⟩ : ∃ V, V = W.alloc (.cells #[.int .u8 k, .int .u8 w1, .int .i64 wd, .slice A kids.length c] 27) := ⟨_, rfl⟩; have hbX : Below W.heap.size W X := by rw [hX]; exact zad (Below.refl _ _) _
 have HBX := zaa.mk hbX; have HK := zaa.mk (show X.heap[W.heap.size]? = some (.cells #[.int .u8 k, .int .u8 w1, .int .i64 wd, .slice A kids.length c] 27 (0, 0)) by rw [hX]; exact heap_alloc_new _ _)
 have CX := zaa.mk (show CA W X g (curO fi oe ne b Ab nb cb tk) b n M from ⟨za8 hbX _, zaU hcur hbX, hmap.below hbX⟩)
 have hu := Try.underlying27; have huc := Try.underlying77; have hup := Try.underlying85; have hus := Try.underlying88; clear ih hz hT hlow hb hmap hcur hbX has hns; have hbig := HAS.out; go_enter Try.func39, Try.ntmps39
 go_upto_region 1 with (fail)
 change Code.wp Try.prog _ _ _ (W.alloc (.cells #[.int .u8 k, .int .u8 w1, .int .i64 wd, .slice A kids.length c] 27))
 rw [← hX]; clear hX; have p0 := zae HK.out 0; have p1 := zae HK.out 1; have p2 := zae HK.out 2; have p3 := zae HK.out 3; have l1 := zaM HK.out; simp at p0 p1 p2 p3; by_cases hk : k < 50
 ·go_wp2
  go_ret
  simp only [cntT, addT, if_pos hk]; exact ⟨rfl, n, by omega, CX.out⟩
 ·have HKN := zaa.mk hk
  go_upto_region 4 with (fail)
  go_wp2_with (go_at_call 55; refine (zaY.calls 1 k (clsN k) X (classes_f k)).mono ?_; rintro e w2 ⟨v2, rfl, hR2, hb2⟩; obtain ⟨Ac, cc, rfl, hcc, hCc⟩ := Kd.R_reads hR2; have HRC := zaa.mk hR2; have HCC := zaa.mk hCc; have HB2 := zaa.mk hb2; clear hR2 hb2 hCc hcc p0 p1 p2 p3)
  obtain ⟨cl, hcl⟩ : ∃ cl, cl = clsN k := ⟨_, rfl⟩; have HCL := zaa.mk hcl; rw [← hcl] at HRC HCC; rw [← hcl]; have hc2 : cl.length ≤ 2 := by rw [hcl]; exact clsN_len k
  have HBYT := zaa.mk (show ∀ c ∈ cl, 0 ≤ c ∧ c ≤ 255 by rw [hcl]; exact clsN_byte k)
  clear hcl; have C2 := zaa.mk (CX.out.below HB2.out); have HBW2 := zaa.mk (zan HBX.out HB2.out); have HGW := zaa.mk (show g < W.heap.size by have := zaM C2.out.cur; exact zaM HCUR.out)
  have HBW := zaa.mk (show b < W.heap.size from HMAP.out.lt)
  have HRC2 := zaa.mk (show Kd.R (Kd.int .u8) 5 w2 X.heap.size (fun q => some q ≠ some b) (.slice Ac cl.length cc) cl from Kd.R_mono (Kd.R_bound HRC.out) (fun q hq e => by injection e with e; have := hq.2.1; have := HBX.out.size; have := HBW.out; omega))
  go_loopg [7, 24] cl.length (fun kq v7 v24 w' => ∃ (i n' m ca : Nat) (Aa : Option Addr), v7 = .slice Aa m ca ∧ v24 = .int .i64 i ∧ i ≤ cl.length ∧ zaa (n' ≤ n + i) ∧ zaa (kq = cl.length - i) ∧ zaa (CA W w' g (curO fi oe ne b Ab nb cb tk) b n' (setM M (ahs k at_ M i) at_ (some nilA))) ∧ zaa (w2.grownBy w' (some b)) ∧ zaa (Kd.R (Kd.raw 2) 88 w' w2.heap.size (fun q => w2.heap.size ≤ q) (.slice Aa m ca) ((ahs k at_ M i).map (spotC at_))))
  case atStart => exact ⟨0, n, 0, 0, none, rfl, rfl, Nat.zero_le _, ⟨Nat.le_refl _⟩, ⟨rfl⟩, ⟨by rw [ahs_zero, setM_nil]; exact C2.out⟩, ⟨World.grownBy.refl _ _⟩, ⟨by rw [ahs_zero]; exact Kd.R_nil _ _ _ _ _⟩⟩
  case round =>
   obtain ⟨i, n', m, ca, Aa, rfl, rfl, hi, HN', HKQ, CI, HG2, HRA⟩ := hrel; by_cases hlt : i < cl.length
   ·obtain ⟨adc, e0, q0⟩ := u8_at (Kd.zbB (Kd.R_grown HRC2.out HG2.out (fun q hq => hq))).2.2 i hlt
    subst e0; obtain ⟨x, hx⟩ : ∃ x, x = cl.getD i 0 := ⟨_, rfl⟩; rw [← hx] at q0; have hxi : (clsN k)[i]? = some x := by rw [← HCL.out, hx, List.getD_eq_getElem?_getD, List.getElem?_eq_getElem hlt]; rfl
    have HXI := zaa.mk hxi; have HXB := zaa.mk (show inS (x, at_) from ⟨HBYT.out x (by rw [HCL.out]; exact List.mem_of_getElem? hxi), by unfold inI; have := HAS.out; simp only; omega⟩)
    have hlk := CI.out.map.look_ok (x, at_) HXB.out; rw [setM_other (ahs_fresh k at_ M i x hxi)] at hlk; have hsn := ahs_succ k at_ M i x hxi; have c3 := CI.out.cells; have lg := zaM CI.out.cur; clear hx hxi; cases ho : M (x, at_) with
    | some y =>
     obtain ⟨⟨yk, yw, yd, yA, yc, yl⟩, yn⟩ := y; rw [ho] at hlk hsn; simp only [Option.getD_some, Option.isSome_some, pv, partV, AT.k, AT.w, AT.wd, AT.A, AT.c, AT.kids, Option.isNone_some, Bool.false_eq_true, if_false, List.append_nil] at hlk hsn; have HSN := zaa.mk hsn; clear ho hsn; go_wp2
     go_roundg (cl.length - (i + 1))
     case measure => have := HKQ.out; omega
     case rel => exact ⟨i + 1, n', m, ca, Aa, rfl, by go_num, by omega, ⟨by have := HN'.out; omega⟩, ⟨rfl⟩, ⟨by rw [HSN.out]; exact CI.out.below (zad (Below.refl _ _) _)⟩, ⟨World.grownBy.trans HG2.out (za8 (zad (Below.refl _ _) _) _)⟩, ⟨by rw [HSN.out]; exact Kd.zbt HRA.out _⟩⟩
    | none =>
     rw [ho] at hlk hsn; simp only [Option.getD_none, Option.isSome_none, pv, partV, AT.k, AT.w, AT.wd, AT.A, AT.c, AT.kids, List.length_nil, Option.isNone_none, if_true] at hlk hsn; have HSN := zaa.mk hsn; clear ho hsn; go_upto_region 9 with (fail)
     obtain ⟨Y, hY⟩ : ∃ V, V = wr.alloc (.cells #[.int .u8 0, .int .u8 0, .int .i64 0, .slice none 0 0, .int .i64 0] 85) := ⟨_, rfl⟩; have HYB := zaa.mk (show Below wr.heap.size wr Y by rw [hY]; exact zad (Below.refl _ _) _)
     change Code.wp Try.prog _ _ _ (wr.alloc (.cells #[.int .u8 0, .int .u8 0, .int .i64 0, .slice none 0 0, .int .i64 0] 85))
     rw [← hY]; clear hY c3 lg hlk; have CY := zaa.mk (CI.out.below HYB.out); have HL2 := ahs_len k at_ M i; obtain ⟨gr, cap, w5, hrun, hg5, hgo5, hR5⟩ := spot_app (c := x) HRA.out HG2.out.size HYB.out HL2; have C5 := zaa.mk (CY.out.row (w' := w5) hg5 (fun q hq => by have h1 := hgo5 q hq; have h2 := HB2.out.size; have h3 := HBX.out.size; have h4 := HGW.out; have h5 := HBW.out; exact ⟨by omega, by omega, by omega⟩))
     have HG5 := zaa.mk (show w2.grownBy w5 (some b) from grown_row2 (World.grownBy.trans HG2.out (za8 HYB.out _)) hg5 hgo5)
     have hsto := C5.out.map.store (x, at_) HXB.out nilA (Nat.lt_of_le_of_lt (show n' ≤ 1000000000 by have := HN'.out; have := HNS.out; omega) (by decide))
     obtain ⟨w6, hup, hM6, ht6⟩ := hsto; have q5 := C5.out.cells; clear HYB CI HRA hg5 hgo5; simp only [pv, partV, nilA, AT.k, AT.w, AT.wd, AT.A, AT.c, AT.kids, List.length_nil] at hup; go_wp2_with (at_builtin; refine wpL_append rfl _ _ _ rfl hrun ?_)
     go_roundg (cl.length - (i + 1))
     case measure => have := HKQ.out; omega
     case rel => exact ⟨i + 1, n' + 1, m + 1, cap, some ⟨gr, 0, none⟩, rfl, by go_num, by omega, ⟨by have := HN'.out; omega⟩, ⟨rfl⟩, ⟨(C5.out.turn (hM6.congr (by rw [HSN.out]; exact (setM_snoc M _ x at_ _).symm)) (zbQ ht6) hgb)⟩, ⟨World.grownBy.trans HG5.out (zbQ ht6)⟩, ⟨by rw [HSN.out]; exact Kd.R_grown hR5 (zbQ ht6) (fun q hq e => by injection e with e; have h2 := HB2.out.size; have h3 := HBX.out.size; have h5 := HBW.out; omega)⟩⟩
   ·obtain rfl : i = cl.length := by omega
    have hall : ahs k at_ M cl.length = ahN k at_ M := by rw [HCL.out]; exact ahs_all k at_ M
    rw [hall] at CI HRA; obtain ⟨ah, hah⟩ : ∃ ah, ah = ahN k at_ M := ⟨_, rfl⟩; rw [← hah] at CI HRA; have HAH := zaa.mk hah; have hal : ah.length ≤ 2 := by rw [hah]; exact Nat.le_trans (List.length_filter_le _ _) (clsN_len k)
    have HN1 := zaa.mk (show n' ≤ n + 2 by have := HN'.out; omega)
    obtain ⟨M1, hM1⟩ : ∃ M1, M1 = setM M ah at_ (some nilA) := ⟨_, rfl⟩; rw [← hM1] at CI; have HM1 := zaa.mk hM1; clear hall hah hM1 HKQ HN' HRC HCC HRC2 hlt hi; have HK2 := zaa.mk (show w2.heap[W.heap.size]? = some (.cells #[.int .u8 k, .int .u8 w1, .int .i64 wd, .slice A kids.length c] 27 (0, 0)) from zaU HK.out HB2.out)
    have hkr : wr.heap[W.heap.size]? = some (.cells #[.int .u8 k, .int .u8 w1, .int .i64 wd, .slice A kids.length c] 27 (0, 0)) := (HG2.out.block _ (zaM HK2.out) (fun e => by injection e with e; have := HBW.out; omega)).trans HK2.out
    have p3 := zae hkr 3; have lr := zaM hkr; simp at p3; go_upto_region 14 with (fail)
    clear p3 lr hkr; go_loopg [12, 59] kids.length (fun kq v12 v59 w' => ∃ (j n2 : Nat) (M2 : PMap), v12 = .int .i64 (cntL (kids.take j)) ∧ v59 = .int .i64 j ∧ j ≤ kids.length ∧ zaa (n2 ≤ n' + 4 * sizeL (kids.take j)) ∧ zaa (kq = kids.length - j) ∧ zaa (CA W w' g (curO fi oe ne b Ab nb cb tk) b n2 M2) ∧ zaa (w2.grownBy w' (some b)) ∧ zaa (addL (kids.drop j) (at_ + cntL (kids.take j)) M2 = addL kids at_ M1) ∧ zaa (Kd.R (Kd.raw 2) 88 w' w2.heap.size (fun q => w2.heap.size ≤ q) (.slice Aa m ca) (ah.map (spotC at_))))
    case atStart => exact ⟨0, n', M1, by simp [cntL], rfl, Nat.zero_le _, ⟨by omega⟩, ⟨rfl⟩, CI, HG2, ⟨by simp [cntL]⟩, HRA⟩
    case round =>
     obtain ⟨j, n2, M2, rfl, rfl, hj, HN2, HKQ, CJ, HGJ, HADD, HRJ⟩ := hrel; by_cases hlt : j < kids.length
     ·obtain ⟨adk, rfl, hw0, hTk⟩ := AtT.kid HT.out j hlt
      obtain ⟨T, hTe⟩ : ∃ T, T = kids[j] := ⟨_, rfl⟩; rw [← hTe] at hw0 hTk; have hje : kids[j]? = some T := by rw [hTe]; exact List.getElem?_eq_getElem hlt
      have HTK := zaa.mk hTk; have HJE := zaa.mk hje; have HSZ := zaa.mk (show SizeOf.sizeOf T < z by have := List.sizeOf_lt_of_mem (List.mem_of_getElem? hje); have := HZ.out; simp at this; omega)
      have HLJ := zaa.mk (CA.low CJ.out HLOW.out HB.out); have hc1 := cntL_take kids j T hje; have hs1 := sizeL_take kids j T hje; have hs2 := sizeL_mono kids (j + 1); have hc2 := (cntL_le (kids.take j)); have hc3 := cntT_le T; have hl5 := sizeL_len kids; obtain ⟨q0, q1, q2, q3⟩ := hw0.below HLJ.out; have lj := zaM CJ.out.cur; have hbig := HAS.out; have HE := zaa.mk hc1; have HE2 := zaa.mk hs1; clear hje hTk hTe hw0; have HBA := zaa.mk (zad (Below.refl wr.heap.size wr) (.cells #[.int .u8 T.k, .int .u8 T.w, .int .i64 T.wd, .slice T.A T.kids.length T.c] 27)); have CY := zaa.mk (CJ.out.below HBA.out); have hcall := IH.out T HSZ.out HTK.out (at_ + cntL (kids.take j)) g b n2 fi oe ne tk Ab nb cb M2 _ (zan HLJ.out HBA.out) HB.out hgb CY.out.cur CY.out.map (by omega) (by omega) (by have := HN2.out; have := HNS.out; have := HN1.out; omega)
      simp only [AT.val] at hcall; go_wp2_with (go_at_call 39; refine hcall.mono ?_; rintro e w5 ⟨rfl, n5, hn5, C5⟩; have C5 := zaa.mk C5; have HN5 := zaa.mk hn5; clear hn5 hcall)
      go_roundg (kids.length - (j + 1))
      case measure => have := HKQ.out; omega
      case rel => exact ⟨j + 1, n5, addT T (at_ + cntL (kids.take j)) M2, by rw [HE.out], by go_num, by omega, ⟨by have := HN5.out; have := HN2.out; have := HE2.out; omega⟩, ⟨rfl⟩, ⟨⟨World.grownBy.trans CY.out.gr C5.out.gr, C5.out.cur, C5.out.map⟩⟩, ⟨World.grownBy.trans HGJ.out (World.grownBy.trans (za8 HBA.out _) C5.out.gr)⟩, ⟨(addL_drop kids j T at_ M2 HJE.out).symm.trans HADD.out⟩, ⟨Kd.R_grown (Kd.zbE HRJ.out HBA.out) C5.out.gr (fun q hq e => by injection e with e; have h2 := HB2.out.size; have h3 := HBX.out.size; have h5 := HBW.out; omega)⟩⟩
     ·obtain rfl : j = kids.length := by omega
      obtain rfl : M2 = addL kids at_ M1 := by have h := HADD.out; rw [List.drop_length, addL] at h; exact h
      rw [List.take_length] at *; obtain ⟨cn, hcn⟩ : ∃ cn, cn = cntL kids := ⟨_, rfl⟩; rw [← hcn]; have hc2 := cntL_le kids; have HCN := zaa.mk hcn; have hcb : 0 ≤ cn ∧ cn ≤ 1000000000 := by have := HAS.out; omega
      have HN2' := zaa.mk (show n2 ≤ n + 2 + 4 * sizeL kids by have := HN2.out; have := HN1.out; omega)
      obtain ⟨M3, hM3⟩ : ∃ M3, M3 = addL kids at_ M1 := ⟨_, rfl⟩; rw [← hM3] at CJ; have HM3 := zaa.mk hM3; obtain ⟨o, ho⟩ : ∃ o, o = (if cn = 0 then none else some (AT.node k w1 wd A c kids, cn) : Option (AT × Int)) := ⟨_, rfl⟩
      have HO := zaa.mk ho; clear hM3 ho HADD HN2 HKQ hc2 hcn hlt hj; obtain rfl : m = ah.length := by
       obtain ⟨A3, c3, e3, _, _⟩ := Kd.R_reads HRJ.out; injection e3 with _ h3 _
       rw [List.length_map] at h3; exact h3
      go_upto_region 19 with (fail)
      go_loopg [74] ah.length (fun kq v74 w' => ∃ (i : Nat), v74 = .int .i64 i ∧ i ≤ ah.length ∧ zaa (kq = ah.length - i) ∧ zaa (∃ n3, n3 ≤ n2 + i ∧ CA W w' g (curO fi oe ne b Ab nb cb tk) b n3 (setM M3 (ah.take i) at_ o)) ∧ zaa (w2.grownBy w' (some b)) ∧ zaa (Kd.R (Kd.raw 2) 88 w' w2.heap.size (fun q => w2.heap.size ≤ q) (.slice Aa ah.length ca) (ah.map (spotC at_))))
      case atStart => exact ⟨0, rfl, Nat.zero_le _, ⟨rfl⟩, ⟨n2, by omega, by rw [List.take_zero, setM_nil]; exact CJ.out⟩, HGJ, HRJ⟩
      case round =>
       obtain ⟨i, rfl, hi, HKQ, HC3, HG3, HR3⟩ := hrel; by_cases hlt : i < ah.length
       ·obtain ⟨ada, e0, q0, q1⟩ := spot_at (Kd.zbB HR3.out).2.2 i hlt
        subst e0; obtain ⟨x, hx⟩ : ∃ x, x = ah.getD i 0 := ⟨_, rfl⟩; rw [← hx] at q0; have hxi : ah[i]? = some x := by rw [hx, List.getD_eq_getElem?_getD, List.getElem?_eq_getElem hlt]; rfl
        have HXI := zaa.mk hxi; have HXB := zaa.mk (show inS (x, at_) from ⟨clsN_byte k x (by have h1 := List.mem_of_getElem? hxi; rw [HAH.out] at h1; exact (List.mem_filter.1 h1).1), by unfold inI; have := HAS.out; simp only; omega⟩)
        clear hx hxi; go_upto_region 21 with (fail)
        obtain ⟨Y, hY⟩ : ∃ V, V = wr.alloc (.cells #[.int .u8 x, .int .i64 at_] 88) := ⟨_, rfl⟩; have HYB := zaa.mk (show Below wr.heap.size wr Y by rw [hY]; exact zad (Below.refl _ _) _)
        have hy0 : Y.heap[wr.heap.size]? = some (.cells #[.int .u8 x, .int .i64 at_] 88 (0, 0)) := by rw [hY]; exact heap_alloc_new _ _
        change Code.wp Try.prog _ _ _ (wr.alloc (.cells #[.int .u8 x, .int .i64 at_] 88))
        rw [← hY]; obtain ⟨n3, hn3, C3⟩ := HC3.out; have CY := zaa.mk (C3.below HYB.out); have HGY := zaa.mk (World.grownBy.trans HG3.out (za8 HYB.out _)); have HRY := zaa.mk (Kd.zbE HR3.out HYB.out); have htk : setM M3 (ah.take (i + 1)) at_ o = fun t => if t = (x, at_) then o else setM M3 (ah.take i) at_ o t := by rw [List.take_add_one, HXI.out, Option.toList_some, setM_snoc]
        have HTK := zaa.mk htk; clear hY q0 q1 htk C3; have y0 := zae hy0 0; have y1 := zae hy0 1; simp at y0 y1; have c3 := CY.out.cells; have lg := zaM CY.out.cur; have ly := zaM hy0; have HBZ := zaa.mk (show Below Y.heap.size Y Y.drew from (Below.refl _ _).drew)
        have CZ := zaa.mk (CY.out.below HBZ.out); by_cases hz : cn = 0
        ·obtain ⟨w6, hdel, hM6, ht6⟩ := CZ.out.map.drop (x, at_) HXB.out 0
         change (Builtin.delete_ #[74, 88] 0 #[.map (some b), .agg #[.int .u8 x, .int .i64 at_]]).run Try.prog Y.drew = _ at hdel
         go_upto_region 22 with (fail)
         go_still_tail 5, mixE
         go_wp2
         obtain rfl : o = none := by rw [HO.out, if_pos hz]
         subst hz; go_roundg (ah.length - (i + 1))
         case measure => have := HKQ.out; omega
         case rel => exact ⟨i + 1, by go_num, by omega, ⟨rfl⟩, ⟨_, by omega, CZ.out.turn (hM6.congr HTK.out.symm) (zbQ ht6) hgb⟩, ⟨World.grownBy.trans HGY.out (World.grownBy.trans (za8 HBZ.out _) (zbQ ht6))⟩, ⟨Kd.R_grown (Kd.zbE HRY.out HBZ.out) (zbQ ht6) (fun q hq e => by injection e with e; have h2 := HB2.out.size; have h3 := HBX.out.size; have h5 := HBW.out; omega)⟩⟩
        ·obtain ⟨w6, hup, hM6, ht6⟩ := CZ.out.map.store (x, at_) HXB.out (.node k w1 wd A c kids, cn) (Nat.lt_of_le_of_lt (show n3 ≤ 1000000000 by have := HN2'.out; have := HNS.out; omega) (by decide))
         have hyn : Y.heap[W.heap.size]? = some (.cells #[.int .u8 k, .int .u8 w1, .int .i64 wd, .slice A kids.length c] 27 (0, 0)) := (HGY.out.block _ (zaM HK2.out) (fun e => by injection e with e; have := HBW.out; omega)).trans HK2.out
         have p0 := zae hyn 0; have p1 := zae hyn 1; have p2 := zae hyn 2; have p3 := zae hyn 3; have lr := zaM hyn; simp at p0 p1 p2 p3; simp only [pv, partV, AT.k, AT.w, AT.wd, AT.A, AT.c, AT.kids] at hup; go_upto_region 23 with (fail)
         go_still_tail 8, mixE
         go_wp2
         obtain rfl : o = some (AT.node k w1 wd A c kids, cn) := by rw [HO.out, if_neg hz]
         go_roundg (ah.length - (i + 1))
         case measure => have := HKQ.out; omega
         case rel => exact ⟨i + 1, by go_num, by omega, ⟨rfl⟩, ⟨_, by omega, CZ.out.turn (hM6.congr HTK.out.symm) (zbQ ht6) hgb⟩, ⟨World.grownBy.trans HGY.out (World.grownBy.trans (za8 HBZ.out _) (zbQ ht6))⟩, ⟨Kd.R_grown (Kd.zbE HRY.out HBZ.out) (zbQ ht6) (fun q hq e => by injection e with e; have h2 := HB2.out.size; have h3 := HBX.out.size; have h5 := HBW.out; omega)⟩⟩
       ·obtain rfl : i = ah.length := by omega
        go_wp2
        go_ret
        simp only [cntT, addT, if_neg (show ¬ k < 50 from by have := HKN.out; omega)]
        obtain ⟨n3, hn3, CZ⟩ := HC3.out; rw [List.take_length, HM3.out, HM1.out, HAH.out, HO.out, HCN.out] at CZ; refine ⟨by rw [← HCN.out]; rfl, n3, ?_, CZ⟩
        have := HN2'.out; simp only [sizeT]; omega
theorem infoInt : (Try.prog.info? 3).map (fun i => (i.zero, i.size, i.bytes)) = some (some (.int .i64 0), 1, 8) := by kernel_rfl
def errN (fi oe ne len : Int) (fit : Bool) : Int := if fi < 0 ∨ oe < fi ∨ ne < fi ∨ len < oe ∨ 1048576 < ne then 2 else if fit then 0 else 150
def bhF (l : List S39) : Nat → Nat → Nat
 | 0, i => i
 | n + 1, i => if i < l.length then (if countsB (zbc l i).f0 then i else bhF l n (i + 1)) else i
def bh (l : List S39) (i : Nat) : Nat := bhF l (l.length - i) i
theorem bh_end (l : List S39) : bh l l.length = l.length := by unfold bh; rw [Nat.sub_self]; rfl
theorem bh_step (l : List S39) (i : Nat) (h : i < l.length) : bh l i = if countsB (zbc l i).f0 then i else bh l (i + 1) := by
 unfold bh
 obtain ⟨k, hk⟩ : ∃ k, l.length - i = k + 1 := ⟨l.length - i - 1, by omega⟩
 rw [hk, bhF, if_pos h, show l.length - (i + 1) = k by omega]
structure CN (w0 w : World) (n0 g b r cap : Nat) (fi oe ne tk : Int) (nm : Nat) (M : PMap) (xs : List Int) : Prop where
 low : Below n0 w0 w
 cur : w.heap[g]? = some (curO fi oe ne b (some ⟨r, 0, none⟩) xs.length cap tk)
 map : zbX w b nm M
 row : Kd.R (Kd.int .i64) 3 w n0 (fun q => n0 ≤ q ∧ q ≠ b ∧ q ≠ g) (.slice (some ⟨r, 0, none⟩) xs.length cap) xs
 n1 : n0 ≤ g ∧ n0 ≤ b ∧ n0 ≤ r
 n2 : g ≠ b ∧ g ≠ r ∧ b ≠ r
theorem CN.put {w0 w : World} {n0 g b r cap : Nat} {fi oe ne tk : Int} {nm : Nat} {M : PMap} {xs : List Int} (h : CN w0 w n0 g b r cap fi oe ne tk nm M xs) (i : Nat) (x : Int) : CN w0 (w.setCell ⟨r, i, none⟩ (.int .i64 x)) n0 g b r cap fi oe ne tk nm M (xs.set i x) := by
 have hr := Kd.R_putn h.row (i : Int) x; rw [Int.toNat_natCast] at hr; have hk : ∀ q, q ≠ r → (w.setCell ⟨r, i, none⟩ (.int .i64 x)).heap[q]? = w.heap[q]? := fun q hq => Below.heap_setCell _ _ _ _ hq
 refine ⟨h.low.setCell h.n1.2.2 _, ?_, h.map.keep (hk b h.n2.2.2), ?_, h.n1, h.n2⟩
 ·rw [hk g h.n2.2.1, List.length_set]; exact h.cur
 ·rw [List.length_set]; exact hr
theorem CN.cells {w0 w : World} {n0 g b r cap : Nat} {fi oe ne tk : Int} {nm : Nat} {M : PMap} {xs : List Int} (h : CN w0 w n0 g b r cap fi oe ne tk nm M xs) : w.cell? ⟨g, 0, none⟩ = some (.int .i64 fi) ∧ w.cell? ⟨g, 1, none⟩ = some (.int .i64 oe) ∧ w.cell? ⟨g, 2, none⟩ = some (.int .i64 ne) ∧ w.cell? ⟨g, 3, none⟩ = some (.map (some b)) ∧ w.cell? ⟨g, 4, none⟩ = some (.slice (some ⟨r, 0, none⟩) xs.length cap) ∧ w.cell? ⟨g, 5, none⟩ = some (.int .i64 tk) := by
 have h0 := zae h.cur 0; have h1 := zae h.cur 1; have h2 := zae h.cur 2; have h3 := zae h.cur 3; have h4 := zae h.cur 4; have h5 := zae h.cur 5; simp at h0 h1 h2 h3 h4 h5; exact ⟨h0, h1, h2, h3, h4, h5⟩
theorem CN.at_ {w0 w : World} {n0 g b r cap : Nat} {fi oe ne tk : Int} {nm : Nat} {M : PMap} {xs : List Int} (h : CN w0 w n0 g b r cap fi oe ne tk nm M xs) (i : Nat) (hi : i < xs.length) : w.cell? ⟨r, i, none⟩ = some (.int .i64 (xs.getD i 0)) ∧ w.frozen? ⟨r, i, none⟩ = false := by
 have := Kd.R_celln 0 h.row (i : Int) (by omega) (by omega)
 have h2 : rdOf 0 xs (i : Int) = xs.getD i 0 := by unfold rdOf; rw [Int.toNat_natCast]
 rw [h2] at this
 simpa only [Int.toNat_natCast] using this
theorem CN.below {w0 w w' : World} {n0 g b r cap : Nat} {fi oe ne tk : Int} {nm : Nat} {M : PMap} {xs : List Int} (h : CN w0 w n0 g b r cap fi oe ne tk nm M xs) (hb : Below w.heap.size w w') : CN w0 w' n0 g b r cap fi oe ne tk nm M xs :=
 ⟨h.low.grown (za8 hb none) (Nat.le_of_lt (Nat.lt_of_le_of_lt h.n1.1 (zaM h.cur))) (fun k hk => by cases hk), zaU h.cur hb, h.map.below hb, Kd.zbE h.row hb, h.n1, h.n2⟩
def NewPost (W : World) (T : AT) (l : List S39) (fi oe ne : Int) (fit : Bool) (e : Ending) (W' : World) : Prop := ∃ er, er = errN fi oe ne l.length fit ∧ Below W.heap.size W W' ∧
   ((er ≠ 0 ∧ e = .returned (.tuple #[.pointer none, .int .i64 er])) ∨ (er = 0 ∧ ∃ g b r cap nm xs, e = .returned (.tuple #[.pointer (some ⟨g, 0, none⟩), .int .i64 0]) ∧ CN W W' W.heap.size g b r cap fi oe ne 0 nm (addT T 0 fun _ => none) xs ∧ nm ≤ 4 * sizeT T ∧ xs.length = l.length + 1 ∧ ∀ j, j ≤ l.length → xs.getD j 0 = (bh l j : Int)))
theorem new_bad {W W' : World} {T : AT} {l : List S39} {fi oe ne : Int} {fit : Bool} {e : Ending} (er : Int) (h : errN fi oe ne l.length fit = er) (hb : Below W.heap.size W W') (hne : er ≠ 0) (he : e = .returned (.tuple #[.pointer none, .int .i64 er])) : NewPost W T l fi oe ne fit e W' := ⟨er, h.symm, hb, .inl ⟨hne, he⟩⟩
set_option maxHeartbeats 8000000 in
set_option maxRecDepth 100000 in
theorem cnew_calls (W : World) (T : AT) (hT : AtT W T) (hts : tsize T.erase ≤ 1000000) (hsz : sizeT T ≤ 1000000) (Al : Option Addr) (cl : Nat) (l : List S39) (hr : Kd.C k39 W Al l.length l) (hc : l.length ≤ cl) (hl : l.length ≤ 1000000) (fi oe ne : Int) (fit : Bool) (hfit : fitsT T.erase l = fit) :
  Calls Try.prog 12 #[T.val, .slice Al l.length cl, .int .i64 fi, .int .i64 oe, .int .i64 ne] W fun e W' => NewPost W T l fi oe ne fit e W' := by
 obtain ⟨k, w1, wd, A, c, kids⟩ := T; simp only [AT.val, AT.k, AT.w, AT.wd, AT.A, AT.c, AT.kids]; have HT := zaa.mk hT; have HTS := zaa.mk hts; have HSZ := zaa.mk hsz; have HR := zaa.mk hr; have HC := zaa.mk hc; have HF := zaa.mk hfit; obtain ⟨X, hX⟩ : ∃ V, V = W.alloc (.cells #[.int .u8 k, .int .u8 w1, .int .i64 wd, .slice A kids.length c] 27) := ⟨_, rfl⟩; have hbX : Below W.heap.size W X := by rw [hX]; exact zad (Below.refl _ _) _
 have HBX := zaa.mk hbX; have HK := zaa.mk (show X.heap[W.heap.size]? = some (.cells #[.int .u8 k, .int .u8 w1, .int .i64 wd, .slice A kids.length c] 27 (0, 0)) by rw [hX]; exact heap_alloc_new _ _)
 have hu := Try.underlying27; have huc := Try.underlying77; have hut := Try.underlying39; have hmm := @run_makeMap Try.prog; have hx1 := wrap_id (x := (l.length : Int) + 1) (by omega) (by omega)
 clear hT hts hsz hr hc hfit hbX; go_enter Try.func12, Try.ntmps12
 go_upto_region 1 with (fail)
 change Code.wp Try.prog _ _ _ (W.alloc (.cells #[.int .u8 k, .int .u8 w1, .int .i64 wd, .slice A kids.length c] 27))
 rw [← hX]; clear hX; by_cases h1 : fi < 0
 ·go_wp2
  refine bodyPost_ret (results_tmp2 rfl _ _ _) rfl ?_
  exact new_bad 2 (by unfold errN; rw [if_pos (.inl h1)]) HBX.out (by decide) rfl
 by_cases h2 : oe < fi
 ·go_wp2
  refine bodyPost_ret (results_tmp2 rfl _ _ _) rfl ?_
  exact new_bad 2 (by unfold errN; rw [if_pos (.inr (.inl h2))]) HBX.out (by decide) rfl
 by_cases h3 : ne < fi
 ·go_wp2
  refine bodyPost_ret (results_tmp2 rfl _ _ _) rfl ?_
  exact new_bad 2 (by unfold errN; rw [if_pos (.inr (.inr (.inl h3)))]) HBX.out (by decide) rfl
 by_cases h4 : (l.length : Int) < oe
 ·go_wp2
  refine bodyPost_ret (results_tmp2 rfl _ _ _) rfl ?_
  exact new_bad 2 (by unfold errN; rw [if_pos (.inr (.inr (.inr (.inl h4))))]) HBX.out (by decide) rfl
 by_cases h5 : 1048576 < ne
 ·go_wp2
  refine bodyPost_ret (results_tmp2 rfl _ _ _) rfl ?_
  exact new_bad 2 (by unfold errN; rw [if_pos (.inr (.inr (.inr (.inr h5))))]) HBX.out (by decide) rfl
 have HER := zaa.mk (show errN fi oe ne l.length fit = if fit then 0 else 150 by unfold errN; rw [if_neg (by omega)])
 have p0 := zae HK.out 0; have p1 := zae HK.out 1; have p2 := zae HK.out 2; have p3 := zae HK.out 3; have lX := zaM HK.out; simp at p0 p1 p2 p3; have hCk := C_of_AT _ _ (Nat.lt_succ_self _) W HT.out; simp only [AT.A, AT.kids] at hCk; have hkc : kids.length ≤ c := by have := HT.out; simp only [AtT] at this; exact this.1
 have HCK := zaa.mk hCk; have HKC := zaa.mk hkc; clear hCk hkc; go_upto_region 3 with (fail)
 have hel := zbl kids; have hcall := fits_calls k w1 wd A c (zbN kids) Al cl l fit X (by rw [hel]; exact Kd.za4 HCK.out HBX.out) (by rw [hel]; exact HKC.out) (Kd.za4 HR.out HBX.out) HC.out (by have := HTS.out; simp only [AT.erase] at this; omega) (by omega) HF.out
 rw [hel] at hcall; cases fit with
 | false =>
  go_wp2_with (go_at_call 37; refine hcall.mono ?_; rintro e w3 ⟨rfl, hb3⟩; have HB3 := zaa.mk hb3; clear hb3 hcall)
  refine bodyPost_ret (results_tmp2 rfl _ _ _) rfl ?_
  exact new_bad 150 (by rw [HER.out]; rfl) (zan HBX.out HB3.out) (by decide) rfl
 | true =>
  go_upto_region 5 with (go_at_call 37; refine hcall.mono ?_; rintro e w3 ⟨rfl, hb3⟩; have HB3 := zaa.mk hb3; clear hb3 hcall)
  have HK3 := zaa.mk (zaU HK.out HB3.out); clear p0 p1 p2 p3 lX; go_upto_region 6 with ((with_reducible refine za5 (N := 49) rfl ?_); refine Kd.R_make (Kd.int .i64) (w0 := w3) w3.heap.size 3 rfl (N := 49) rfl 75 (.tmp 48) (.tmp 48) rfl ((l.length : Int) + 1) ?hx ?hy Try.underlying75 (.int .i64 0) 8 infoInt rfl (by decide) (by decide) 0 (ok := fun q => w3.heap.size < q) (okp := fun _ => False) rfl (fun _ h => h.elim) (by simp) (by omega) (by omega) (zad (Below.refl _ _) _) (by simp) ?_; (case hx => first | (go_simp; done) | (go_simp; rfl)); (case hy => first | (go_simp; done) | (go_simp; rfl)); intro v4 w4 hR4 hb4 hg4 hn4; obtain ⟨xs, hxs⟩ : ∃ xs, xs = List.replicate ((l.length : Int) + 1).toNat (0 : Int) := ⟨_, rfl⟩; rw [← hxs] at hR4; have hxl : xs.length = l.length + 1 := (by rw [hxs, List.length_replicate]; omega); obtain ⟨r, cap, rfl, _, _, _⟩ := Kd.R_form hR4 (by omega); have HXS := zaa.mk hxs; have HXL := zaa.mk hxl; clear hxs hxl; have HR4 := zaa.mk hR4; have HB4 := zaa.mk hb4; have HG4 := zaa.mk hg4; have HN4 := zaa.mk hn4; clear hR4 hb4 hg4 hn4)
  obtain ⟨g, hg⟩ : ∃ g, g = w4.heap.size := ⟨_, rfl⟩; obtain ⟨b, hb⟩ : ∃ b, b = w3.heap.size := ⟨_, rfl⟩; obtain ⟨Y, hY⟩ : ∃ V, V = w4.alloc (.cells #[.int .i64 fi, .int .i64 oe, .int .i64 ne, .map (some w3.heap.size), .slice (some ⟨r, 0, none⟩) xs.length cap, .int .i64 0] 77) := ⟨_, rfl⟩; have HCN := zaa.mk (show CN W Y W.heap.size g b r cap fi oe ne 0 0 (fun _ => none) xs by
   have e1 := zan HBX.out HB3.out; have e2 := HB4.out; have e3 : Below w4.heap.size w4 Y := by rw [hY]; exact zad (Below.refl _ _) _
   have s1 := e1.size; have s4 := HG4.out.size; have s3 : (w3.alloc (.map #[] 0)).heap.size = w3.heap.size + 1 := by simp
   have hr0 := (Kd.R_bound HR4.out).1 r (by rfl)
   have hm : zbX w4 b 0 (fun _ => none) := by rw [hb]; exact (zbX.start w3).keep (HG4.out.block _ (by omega) (fun e => by cases e))
   refine ⟨zan (zan e1 e2) e3, ?_, hm.below e3, ?_, ⟨by omega, by omega, by omega⟩, ⟨by omega, by omega, by omega⟩⟩
   ·rw [hY, hg, hb]; exact heap_alloc_new _ _
   ·exact Kd.zbE (Kd.zbK (Kd.R_mono (Kd.R_bound HR4.out) (fun q hq => ⟨by omega, by omega, by omega⟩)) (by omega)) e3)
  change Code.wp Try.prog _ _ _ (w4.alloc (.cells #[.int .i64 fi, .int .i64 oe, .int .i64 ne, .map (some w3.heap.size), .slice (some ⟨r, 0, none⟩) xs.length cap, .int .i64 0] 77))
  rw [← hY, ← hg, ← hb]; have HK4 := zaa.mk (show Y.heap[W.heap.size]? = some (.cells #[.int .u8 k, .int .u8 w1, .int .i64 wd, .slice A kids.length c] 27 (0, 0)) from by
   have e3 : Below w4.heap.size w4 Y := by rw [hY]; exact zad (Below.refl _ _) _
   exact zaU HK3.out (zan HB4.out e3))
  have HXG := zaa.mk (show W.heap.size < g by have := zaM HK3.out; have := HG4.out.size; simp at this; omega)
  have HXR := zaa.mk (show W.heap.size < r by have := zaM HK3.out; have := HCN.out.n1; have h9 := HR4.out.1 r rfl; omega)
  clear hY hg hb HB4 HG4 HN4 HR4; obtain ⟨c0, c1, c2, c3, c4, c5⟩ := HCN.out.cells; obtain ⟨q0, q1⟩ := HCN.out.at_ l.length (by have := HXL.out; omega)
  have lg := zaM HCN.out.cur; have hxl := HXL.out; go_upto_region 8 with (fail)
  have HC1 := zaa.mk (HCN.out.put l.length (l.length : Int)); have HKP : ∀ (w : World) (i : Nat) (v : Value), w.heap[W.heap.size]? = some (.cells #[.int .u8 k, .int .u8 w1, .int .i64 wd, .slice A kids.length c] 27 (0, 0)) → (w.setCell ⟨r, i, none⟩ v).heap[W.heap.size]? = some (.cells #[.int .u8 k, .int .u8 w1, .int .i64 wd, .slice A kids.length c] 27 (0, 0)) := fun w i v h => (Below.heap_setCell _ _ _ _ (show W.heap.size ≠ r by have := HXR.out; omega)).trans h
  have HKP := zaa.mk HKP; go_loopg [13] l.length (fun kq v13 w' => ∃ (i : Nat) (ys : List Int), v13 = .int .i64 ((i : Int) - 1) ∧ i ≤ l.length ∧ zaa (kq = i) ∧ zaa (CN W w' W.heap.size g b r cap fi oe ne 0 0 (fun _ => none) ys) ∧ zaa (ys.length = l.length + 1) ∧ zaa (∀ j, i ≤ j → j ≤ l.length → ys.getD j 0 = (bh l j : Int)) ∧ zaa (w'.heap[W.heap.size]? = some (.cells #[.int .u8 k, .int .u8 w1, .int .i64 wd, .slice A kids.length c] 27 (0, 0))))
  case atStart => exact ⟨l.length, xs.set l.length l.length, rfl, Nat.le_refl _, ⟨rfl⟩, HC1, ⟨by simp; exact hxl⟩, ⟨fun j h1 h2 => by obtain rfl : j = l.length := (by omega); rw [bh_end, List.getD_eq_getElem?_getD, List.getElem?_set_self (by omega)]; rfl⟩, ⟨HKP.out _ _ _ HK4.out⟩⟩
  case round =>
   clear hxl c0 c1 c2 c3 c4 c5 q0 q1; obtain ⟨i, ys, rfl, hi, HKQ, HCI, HYL, HYS, HKI⟩ := hrel; have hyl := HYL.out; cases i with
   | zero =>
    have HCL := zaa.mk HCI.out.low; have p0 := zae HKI.out 0; have p1 := zae HKI.out 1; have p2 := zae HKI.out 2; have p3 := zae HKI.out 3; have lX := zaM HKI.out; simp at p0 p1 p2 p3; have hw0 : ((0 : Nat) : Int) - 1 = -1 := rfl; rw [hw0]; have hcall := cadd_calls W (SizeOf.sizeOf (AT.node k w1 wd A c kids) + 1) (AT.node k w1 wd A c kids) (Nat.lt_succ_self _) HT.out 0 g b 0 fi oe ne 0 (some ⟨r, 0, none⟩) ys.length cap (fun _ => none) wr HCL.out HCI.out.n1.2.1 HCI.out.n2.1 HCI.out.cur HCI.out.map (Int.le_refl _) (by have := HSZ.out; omega) (by have := HSZ.out; omega)
    simp only [AT.val, AT.k, AT.w, AT.wd, AT.A, AT.c, AT.kids] at hcall; go_wp2_with (go_at_call 39; refine hcall.mono ?_; rintro e w5 ⟨rfl, n5, hn5, C5⟩; have C5 := zaa.mk C5; have HN5 := zaa.mk hn5; clear hn5 hcall)
    refine bodyPost_ret (results_tmp2 rfl _ _ _) rfl ?_
    have hlow : Below W.heap.size W w5 := C5.out.low HCL.out HCI.out.n1.2.1; refine ⟨0, by rw [HER.out]; rfl, hlow, .inr ⟨rfl, g, b, r, cap, n5, ys, rfl, ⟨hlow, C5.out.cur, C5.out.map, ?_, HCI.out.n1, HCI.out.n2⟩, by have := HN5.out; omega, HYL.out, fun j hj => HYS.out j (Nat.zero_le _) hj⟩⟩
    exact Kd.R_grown HCI.out.row C5.out.gr (fun q hq e => hq.2.1 (Option.some.inj e))
   | succ p =>
    have hpi : ((p + 1 : Nat) : Int) - 1 = (p : Int) := by omega
    rw [hpi]; obtain ⟨c0, c1, c2, c3, c4, c5⟩ := HCI.out.cells; obtain ⟨q0, q1⟩ := HCI.out.at_ (p + 1) (by omega)
    obtain ⟨q2, q3⟩ := HCI.out.at_ p (by omega)
    have lg := zaM HCI.out.cur; have hpa : 0 ≤ (p : Int) + 1 := by omega
    have hpb : (p : Int) + 1 < (l.length : Int) + 1 := by omega
    have hpc : (p : Int) < (l.length : Int) + 1 := by omega
    have hpt : ((p : Int) + 1).toNat = p + 1 := by omega
    have hpw : IntKind.i64.wrap ((p : Int) + 1) = (p : Int) + 1 := IntWalk.i64_in _ ⟨by omega, by omega⟩
    have hp1 : wrap64 ((p : Int) + 1) = (p : Int) + 1 := wrap_id (by omega) (by omega)
    obtain ⟨x, hx⟩ : ∃ x, x = ys.getD (p + 1) 0 := ⟨_, rfl⟩; rw [← hx] at q0; have HX := zaa.mk (show x = (bh l (p + 1) : Int) by rw [hx]; exact HYS.out (p + 1) (Nat.le_refl _) hi)
    clear hx; go_upto_region 10 with (fail)
    go_still_tail 14, mixE
    clear hpw hp1 hpa hpb hpc hpt; go_upto_region 11 with (fail)
    obtain ⟨Z, hZ⟩ : ∃ V, V = (wr.setCell ⟨r, p, none⟩ (.int .i64 x)).drew := ⟨_, rfl⟩; have HCZ := zaa.mk (show CN W Z W.heap.size g b r cap fi oe ne 0 0 (fun _ => none) (ys.set p x) by rw [hZ]; exact (HCI.out.put p x).below (Below.refl _ _).drew)
    have HKZ := zaa.mk (show Z.heap[W.heap.size]? = some (.cells #[.int .u8 k, .int .u8 w1, .int .i64 wd, .slice A kids.length c] 27 (0, 0)) by rw [hZ]; exact HKP.out wr p _ HKI.out)
    change Code.wp Try.prog _ _ _ ((wr.setCell ⟨r, p, none⟩ (.int .i64 x)).drew)
    rw [← hZ]; clear hZ c0 c1 c2 c3 c4 c5 q0 q1 q2 q3 lg; obtain ⟨adt, et, t0, t1, t2⟩ := at_T39 (Kd.za4 HR.out HCZ.out.low) (p : Int) (by omega) (by omega)
    subst et; rw [Int.toNat_natCast] at t0; clear t1 t2; have HB := zaa.mk (bh_step l p (by omega))
    cases hcb : countsB (zbc l p).f0 with
    | false =>
     have HCB := zaa.mk hcb; have hcc : zbP.f (zbc l p).f0 = some false := by unfold zbP.f; rw [hcb]
     have hcall := zbP.calls _ _ Z hcc; clear hcb hcc; go_wp2_with (go_at_call 38; refine hcall.mono ?_; rintro e w5 ⟨rfl, hb5⟩; have HB5 := zaa.mk hb5; clear hb5 hcall)
     go_roundg p
     case measure => have := HKQ.out; omega
     case rel => exact ⟨p, ys.set p x, rfl, by omega, ⟨rfl⟩, ⟨HCZ.out.below HB5.out⟩, ⟨by rw [List.length_set]; exact HYL.out⟩, ⟨fun j h1 h2 => by
      rcases Nat.lt_or_ge p j with h3 | h3
      ·rw [List.getD_eq_getElem?_getD, List.getElem?_set_ne (by omega), ← List.getD_eq_getElem?_getD]; exact HYS.out j h3 h2
      ·obtain rfl : j = p := by omega
       rw [List.getD_eq_getElem?_getD, List.getElem?_set_self (by have := HYL.out; omega), Option.getD_some, HX.out, HB.out, if_neg (by rw [HCB.out]; decide)]⟩, ⟨zaU HKZ.out HB5.out⟩⟩
    | true =>
     have HCB := zaa.mk hcb; have hcc : zbP.f (zbc l p).f0 = some true := by unfold zbP.f; rw [hcb]
     have hcall := zbP.calls _ _ Z hcc; clear hcb hcc; go_upto_region 12 with (go_at_call 38; refine hcall.mono ?_; rintro e w5 ⟨rfl, hb5⟩; have HB5 := zaa.mk hb5; clear hb5 hcall)
     have HC5 := zaa.mk (HCZ.out.below HB5.out); obtain ⟨c0, c1, c2, c3, c4, c5⟩ := HC5.out.cells; have hsl : (ys.set p x).length = ys.length := by simp
     rw [hsl] at c4; obtain ⟨q2, q3⟩ := HC5.out.at_ p (by rw [hsl]; omega)
     have lg := zaM HC5.out.cur; go_wp2
     go_roundg p
     case measure => have := HKQ.out; omega
     case rel => exact ⟨p, (ys.set p x).set p p, rfl, by omega, ⟨rfl⟩, ⟨HC5.out.put p p⟩, ⟨by rw [List.length_set, List.length_set]; exact HYL.out⟩, ⟨fun j h1 h2 => by
      rcases Nat.lt_or_ge p j with h3 | h3
      ·rw [List.getD_eq_getElem?_getD, List.getElem?_set_ne (by omega), List.getElem?_set_ne (by omega), ← List.getD_eq_getElem?_getD]; exact HYS.out j h3 h2
      ·obtain rfl : j = p := by omega
       rw [List.getD_eq_getElem?_getD, List.getElem?_set_self (by rw [List.length_set]; have := HYL.out; omega), Option.getD_some, HB.out, if_pos HCB.out]⟩, ⟨HKP.out _ _ _ (zaU HKZ.out HB5.out)⟩⟩
abbrev Leaf3 := S27 × Option Addr × Nat
abbrev raw4 (x : Leaf3) : List Value := [.int .u8 x.1.f0, .int .u8 x.1.f1, .int .i64 x.1.f2, .slice x.2.1 x.1.f3.length x.2.2]
theorem leaf_at {W : World} {A : Option Addr} {L : List Leaf3} (h : Kd.C (Kd.raw 4) W A (L.map raw4).length (L.map raw4)) (i : Nat) (hi : i < L.length) (x : Leaf3) (hx : L[i]? = some x) : ∃ ad, A = some ad ∧ W.cell? (ad.add (i * 4)) = some (.int .u8 x.1.f0) ∧ W.cell? ⟨(ad.add (i * 4)).block, (ad.add (i * 4)).off + 2, none⟩ = some (.int .i64 x.1.f2) := by
 obtain ⟨ad, c, e, _, hK, hc0⟩ := Kd.C_get h [] (i : Int) (by omega) (by simpa using hi)
 have hc : ∀ j u, c[j]? = some u → W.cell? (ad.add (i * 4 + j)) = some u := fun j u hu => by have := hc0 j u hu; rw [Int.toNat_natCast] at this; exact this
 have hc' : c = raw4 x := by
  have h1 := hK.1; rw [h1, Int.toNat_natCast, List.getD_eq_getElem?_getD, List.getElem?_map, hx]
  rfl
 subst hc'; exact ⟨ad, e, by simpa using hc 0 _ rfl, by rw [← zbp _ _ 2 (by omega)]; exact hc 2 _ rfl⟩
theorem infoNodeF : (Try.prog.info? 27).map (fun i => (i.zero, i.size, i.bytes)) = some (some (.agg #[.int .u8 0, .int .u8 0, .int .i64 0, .slice none 0 0]), 4, 40) := by kernel_rfl
theorem filt_take {L : List S27} {i : Nat} {x : S27} (h : L[i]? = some x) : filt (L.take (i + 1)) = filt (L.take i) ++ if x.f0 = 50 then [] else [x] := by
 unfold filt
 rw [List.take_add_one, h, List.filter_append]; by_cases c : x.f0 = 50 <;> simp [c]
theorem eqB_cons {x : S27} {r : List S27} {y : S39} {s : List S39} : eqB (x :: r) (y :: s) = ((x.f0 == y.f0 && x.f2 == y.f1) && eqB r s) := by simp only [eqB]
set_option maxHeartbeats 8000000 in
set_option maxRecDepth 100000 in
theorem rfits_calls (k w1 wd : Int) (A : Option Addr) (c : Nat) (kl : List S27) (Al : Option Addr) (cl : Nat) (l : List S39) (fit : Bool) (W : World) (hk : Kd.C k27 W A kl.length kl) (hkc : kl.length ≤ c) (hl : Kd.C k39 W Al l.length l) (hlc : l.length ≤ cl) (hb : byteT ⟨k, w1, wd, kl⟩) (hts : tsize ⟨k, w1, wd, kl⟩ ≤ 2000000) (hll : l.length ≤ 1000000000000) (hfit : fitsT ⟨k, w1, wd, kl⟩ l = fit) :
  Calls Try.prog 40 #[.agg #[.int .u8 k, .int .u8 w1, .int .i64 wd, .slice A kl.length c], .slice Al l.length cl] W fun e W' => e = .returned (.bool fit) ∧ Below W.heap.size W W' := by
 obtain ⟨X, hX⟩ : ∃ V, V = W.alloc (.cells #[.int .u8 k, .int .u8 w1, .int .i64 wd, .slice A kl.length c] 27) := ⟨_, rfl⟩; have HBX := zaa.mk (show Below W.heap.size W X by rw [hX]; exact zad (Below.refl _ _) _)
 have HBOX := zaa.mk (show X.heap[W.heap.size]? = some (.cells #[.int .u8 k, .int .u8 w1, .int .i64 wd, .slice A kl.length c] 27 (0, 0)) by rw [hX]; exact heap_alloc_new _ _)
 have HK := zaa.mk hk; have HKC := zaa.mk hkc; have HL := zaa.mk hl; have HLC := zaa.mk hlc; have HLL := zaa.mk hll; have hu := Try.underlying27; obtain ⟨ob, hob⟩ : ∃ ob, ob = okB ⟨k, w1, wd, kl⟩ := ⟨_, rfl⟩; obtain ⟨kr, hkr⟩ := right_ref k w1 wd kl hb; have HRT := zaa.mk (show za3.f kr k w1 wd kl = some ob by rw [hob]; exact hkr kr (Nat.le_refl _))
 obtain ⟨L, hL⟩ : ∃ L, L = leavesS (allT ⟨k, w1, wd, kl⟩) := ⟨_, rfl⟩; obtain ⟨kv, hkv⟩ := rleaves_ev ⟨k, w1, wd, kl⟩ hb hts; have HLV := zaa.mk (show zaL.f kv k w1 wd kl = some L by rw [hL]; exact hkv kv (Nat.le_refl _))
 have HLN := zaa.mk (show L.length ≤ 2000000 by rw [hL]; exact Nat.le_trans (leavesS_length _) hts)
 unfold fitsT at hfit
 rw [← hob, ← hL] at hfit; have HFT := zaa.mk hfit; clear hk hkc hl hlc hts hll hob hL hfit hkr hkv hb; go_enter Try.func40, Try.ntmps40
 go_upto_region 1 with (fail)
 change Code.wp Try.prog _ _ _ (W.alloc (.cells #[.int .u8 k, .int .u8 w1, .int .i64 wd, .slice A kl.length c] 27))
 rw [← hX]; clear hX; have p0 := zae HBOX.out 0; have p1 := zae HBOX.out 1; have p2 := zae HBOX.out 2; have p3 := zae HBOX.out 3; simp at p0 p1 p2 p3; cases ob with
 | false =>
  go_wp2_with (go_at_call 56; refine (za3.calls kr k w1 wd A c kl false X (Kd.za4 HK.out HBX.out) HKC.out HRT.out).mono ?_; rintro e w2 ⟨rfl, hb2⟩; have HB2 := zaa.mk hb2; clear hb2 p0 p1 p2 p3)
  go_ret
  refine ⟨?_, zan HBX.out HB2.out⟩
  have := HFT.out; rw [Bool.false_and] at this; rw [← this]
  rfl
 | true =>
  have HFT' := zaa.mk (show fitsB L l = fit by have := HFT.out; rwa [Bool.true_and] at this)
  go_upto_region 3 with (go_at_call 56; refine (za3.calls kr k w1 wd A c kl true X (Kd.za4 HK.out HBX.out) HKC.out HRT.out).mono ?_; rintro e w2 ⟨rfl, hb2⟩; have HB2 := zaa.mk hb2; clear hb2 p0 p1 p2 p3)
  have hbx := zaU HBOX.out HB2.out; have p0 := zae hbx 0; have p1 := zae hbx 1; have p2 := zae hbx 2; have p3 := zae hbx 3; simp at p0 p1 p2 p3; clear hbx; have HBW2 := zaa.mk (zan HBX.out HB2.out); have HV := zaa.mk (show Kd.V k27 27 w2 w2.heap.size (fun k_ => k_ < w2.heap.size) (.slice A kl.length c) kl from Kd.V_mk HKC.out (Kd.C_F k27_heap (Kd.za4 HK.out HBW2.out)))
  go_wp2_with (go_at_call 57; refine (zaL.calls kv k w1 wd (fun k_ => k_ < w2.heap.size) A c kl L w2 HV.out HLV.out).mono ?_; rintro e w3 ⟨v, rfl, hRt, hb3⟩; obtain ⟨A2, c2, rfl, hc2, hC2⟩ := Kd.zaQ hRt; have HB3 := zaa.mk (zan HBW2.out hb3); have HC2 := zaa.mk hC2; have HLC2 := zaa.mk hc2; clear hRt hb3 hC2 hc2 p0 p1 p2 p3)
  go_loopg [6, 7] L.length (fun kq v6 v7 w' => ∃ (i : Nat) (m : List Leaf3) (vv : Value), v7 = .int .i64 i ∧ vv = v6 ∧ i ≤ L.length ∧ zaa (kq = L.length - i) ∧ zaa (Below w3.heap.size w3 w') ∧ zaa (Kd.R (Kd.raw 4) 27 w' w3.heap.size (fun q => w3.heap.size ≤ q) v6 (m.map raw4)) ∧ zaa (m.map (·.1) = filt (L.take i)))
  case atStart => exact ⟨0, [], _, rfl, rfl, Nat.zero_le _, ⟨rfl⟩, ⟨Below.refl _ _⟩, ⟨Kd.R_nil _ _ _ _ _⟩, ⟨by simp [filt]⟩⟩
  case round =>
   obtain ⟨i, m, vv, rfl, rfl, hi, HKQ, HBI, HRI, HMI⟩ := hrel; have hln := HLN.out; obtain ⟨Av, cv, e⟩ := Kd.zbO HRI.out; rw [List.length_map] at e; subst e; by_cases hlt : i < L.length
   ·obtain ⟨x, hx⟩ : ∃ x, L[i]? = some x := ⟨_, List.getElem?_eq_getElem hlt⟩
    obtain ⟨ada, A3, c3, e0, q0, q1, q2, q3, _, _⟩ := at_T27 (Kd.za4 HC2.out HBI.out) (i : Int) (by omega) (by omega)
    subst e0; rw [rd_get27 hx, Int.toNat_natCast] at q0 q1 q2 q3; have HFK := zaa.mk (filt_take hx); clear hx; by_cases h50 : x.f0 = 50
    ·have hd50 : (x.f0 != 50) = false := by simp [h50]
     have HFK2 := zaa.mk (show filt (L.take (i + 1)) = filt (L.take i) by rw [HFK.out, if_pos h50, List.append_nil])
     clear h50; go_wp2
     go_roundg (L.length - (i + 1))
     case measure => have := HKQ.out; omega
     case rel => exact ⟨i + 1, m, _, by go_num, rfl, by omega, ⟨rfl⟩, HBI, HRI, ⟨by rw [HFK2.out]; exact HMI.out⟩⟩
    ·have hd50 : (x.f0 != 50) = true := by simp [h50]
     have HFK2 := zaa.mk (show filt (L.take (i + 1)) = filt (L.take i) ++ [x] by rw [HFK.out, if_neg h50])
     have HML := zaa.mk (show m.length ≤ 2000000 by have h1 := congrArg List.length HMI.out; rw [List.length_map] at h1; rw [h1]; have := List.length_filter_le (fun x : S27 => decide (x.f0 ≠ 50)) (L.take i); rw [List.length_take] at this; unfold filt; omega)
     clear h50; obtain ⟨y, hy⟩ : ∃ y : Leaf3, y = (x, A3, c3) := ⟨_, rfl⟩; have hyr : raw4 y = [.int .u8 x.f0, .int .u8 x.f1, .int .i64 x.f2, .slice A3 x.f3.length c3] := by rw [hy]
     obtain ⟨Y, hY⟩ : ∃ V, V = wr.alloc (.cells #[.int .u8 x.f0, .int .u8 x.f1, .int .i64 x.f2, .slice A3 x.f3.length c3] 27) := ⟨_, rfl⟩; have hbY : Below wr.heap.size wr Y := by rw [hY]; exact zad (Below.refl _ _) _
     obtain ⟨g, cap, w5, hrun, hg5, hgo5, hbg5, hnl, hR5⟩ := append_elem (Kd.raw 4) 27 25 HRI.out HBI.out.size (fun q hq => by have := HBI.out.size; omega) Try.underlying25 infoNodeF rfl (by decide) (by decide) (by rw [List.length_map]; have := HML.out; omega) hbY (raw4 y) (raw4 y) (by rw [hY, hyr]; exact heap_alloc_new _ _) ⟨rfl, rfl, by rw [hyr]; intro u hu; simp at hu; rcases hu with rfl | rfl | rfl | rfl <;> rfl⟩ rfl (by rw [hyr]; intro u hu; simp at hu; rcases hu with rfl | rfl | rfl | rfl <;> rfl)
     rw [hY] at hrun; have HR5 := zaa.mk (show Kd.R (Kd.raw 4) 27 w5 w3.heap.size (fun q => w3.heap.size ≤ q) (.slice (some ⟨g, 0, none⟩) (m.length + 1) cap) ((m ++ [y]).map raw4) by rw [List.map_append, List.map_singleton]; exact hR5)
     have HB5 := zaa.mk (show Below w3.heap.size w3 w5 from HBI.out.grown hg5 HBI.out.size (fun q hq => HRI.out.1 q hq))
     have HM5 := zaa.mk (show (m ++ [y]).map (·.1) = filt (L.take (i + 1)) by rw [List.map_append, HMI.out, HFK2.out, hy]; rfl)
     clear hY hbY hg5 hgo5 hR5 hy hyr hnl hbg5; go_wp2_with (at_builtin; refine wpL_append rfl _ _ _ rfl hrun ?_; clear hrun)
     go_roundg (L.length - (i + 1))
     case measure => have := HKQ.out; omega
     case rel => exact ⟨i + 1, m ++ [y], _, by go_num, rfl, by omega, ⟨rfl⟩, HB5, HR5, HM5⟩
   ·have hie : i = L.length := by omega
    subst hie; have HMM := zaa.mk (show m.map (·.1) = filt L by have := HMI.out; rwa [List.take_length] at this)
    have hml : m.length = (filt L).length := by rw [← HMM.out, List.length_map]
    have HFB := zaa.mk (show (decide ((filt L).length = l.length) && eqB (filt L) l) = fit from HFT'.out)
    have HML := zaa.mk hml; clear hlt hi; by_cases hne : m.length = l.length
    ·have hd : ((m.length : Int) != (l.length : Int)) = false := by simp [hne]
     have HEQ := zaa.mk (show eqB (filt L) l = fit by have := HFB.out; rw [← HML.out, decide_eq_true hne, Bool.true_and] at this; exact this)
     have HNE := zaa.mk hne; have hll := HLL.out; clear hne hml; go_wp2
     go_loopg [8] l.length (fun kq v8 w' => ∃ (j : Nat), v8 = .int .i64 j ∧ j ≤ l.length ∧ zaa (kq = l.length - j) ∧ zaa (Below wr.heap.size wr w') ∧ zaa (eqB ((filt L).drop j) (l.drop j) = fit))
     case atStart => exact ⟨0, rfl, Nat.zero_le _, ⟨rfl⟩, ⟨Below.refl _ _⟩, HEQ⟩
     case round =>
      obtain ⟨j, rfl, hj, HKJ, HBJ, HEJ⟩ := hrel; have hnm := HNE.out; by_cases hlj : j < l.length
      ·obtain ⟨x, hx⟩ : ∃ x, m[j]? = some x := ⟨_, List.getElem?_eq_getElem (by omega)⟩
       obtain ⟨y, hy⟩ : ∃ y, l[j]? = some y := ⟨_, List.getElem?_eq_getElem hlj⟩; obtain ⟨adm, e0, q0, q2⟩ := leaf_at (Kd.zbB (Kd.zbE HRI.out HBJ.out)).2.2 j (by omega) x hx
       obtain ⟨adb, e1, r0, r1, _⟩ := at_T39 (Kd.za4 HL.out (zan HB3.out (zan HBI.out HBJ.out))) (j : Int) (by omega) (by omega)
       subst e0; subst e1; rw [rd_get39 hy, Int.toNat_natCast] at r0 r1; have hxf : (filt L)[j]? = some x.1 := by rw [← HMM.out, List.getElem?_map, hx]; rfl
       have HST := zaa.mk (show ((x.1.f0 == y.f0 && x.1.f2 == y.f1) && eqB ((filt L).drop (j + 1)) (l.drop (j + 1))) = fit by have := HEJ.out; rw [drop_get hxf, drop_get hy, eqB_cons] at this; exact this)
       clear hx hy hxf; obtain ⟨⟨xk, xw, xd, xl⟩, xA, xc⟩ := x; obtain ⟨yk, yd, yz⟩ := y; simp only at r0 r1 HST q0 q2; by_cases e1 : xk = yk
       ·have hb1 : (xk != yk) = false := by simp [e1]
        by_cases e2 : xd = yd
        ·have hb2 : (xd != yd) = false := by simp [e2]
         have HST2 := zaa.mk (show eqB ((filt L).drop (j + 1)) (l.drop (j + 1)) = fit by have := HST.out; rw [e1, e2] at this; simpa using this)
         clear e1 e2; go_upto_region 15 with (fail)
         go_quiet (fail)
         go_wp2
         go_roundg (l.length - (j + 1))
         case measure => have := HKJ.out; omega
         case rel => exact ⟨j + 1, by go_num, by omega, ⟨rfl⟩, ⟨zan HBJ.out ⟨rfl, rfl, rfl, Nat.le_refl _, fun _ _ => rfl⟩⟩, HST2⟩
        ·have hb2 : (xd != yd) = true := by simp [e2]
         have hst2 : fit = false := by have := HST.out; rw [beq_eq_false_iff_ne.mpr e2] at this; rw [← this]; simp
         clear e1 e2; go_upto_region 15 with (fail)
         go_quiet (fail)
         go_wp2
         go_ret
         exact ⟨by rw [hst2]; rfl, zan HB3.out (zan HBI.out (zan HBJ.out ⟨rfl, rfl, rfl, Nat.le_refl _, fun _ _ => rfl⟩))⟩
       ·have hb1 : (xk != yk) = true := by simp [e1]
        have hst2 : fit = false := by have := HST.out; rw [beq_eq_false_iff_ne.mpr e1] at this; rw [← this]; simp
        clear e1; go_upto_region 15 with (fail)
        go_quiet (fail)
        go_wp2
        go_ret
        exact ⟨by rw [hst2]; rfl, zan HB3.out (zan HBI.out (zan HBJ.out ⟨rfl, rfl, rfl, Nat.le_refl _, fun _ _ => rfl⟩))⟩
      ·have hje : j = l.length := by omega
       have hst2 : fit = true := by
        have := HEJ.out; rw [hje, List.drop_length, ← HMM.out, List.drop_eq_nil_of_le (by rw [List.length_map]; omega)] at this
        rw [← this]; simp only [eqB]
       clear hje; go_wp2
       go_ret
       exact ⟨by rw [hst2]; rfl, zan HB3.out (zan HBI.out HBJ.out)⟩
    ·have hd : ((m.length : Int) != (l.length : Int)) = true := by simp; omega
     have hst2 : fit = false := by have := HFB.out; rw [← HML.out, decide_eq_false hne, Bool.false_and] at this; exact this.symm
     clear hne hml; go_wp2
     go_ret
     exact ⟨by rw [hst2]; rfl, zan HB3.out HBI.out⟩
theorem of_calls (k w1 wd : Int) (A : Option Addr) (c n : Nat) (cl : Int) (W : World) :
  Calls Try.prog 42 #[.agg #[.int .u8 k, .int .u8 w1, .int .i64 wd, .slice A n c], .int .u8 cl] W fun e W' => e = .returned (.bool (decide (cl ∈ clsN k))) ∧ Below W.heap.size W W' := by
 obtain ⟨X, hX⟩ : ∃ V, V = W.alloc (.cells #[.int .u8 k, .int .u8 w1, .int .i64 wd, .slice A n c] 27) := ⟨_, rfl⟩; have HBX := zaa.mk (show Below W.heap.size W X by rw [hX]; exact zad (Below.refl _ _) _)
 have hk0 : X.heap[W.heap.size]? = some (.cells #[.int .u8 k, .int .u8 w1, .int .i64 wd, .slice A n c] 27 (0, 0)) := by rw [hX]; exact heap_alloc_new _ _
 have p0 := zae hk0 0; simp at p0; have hu := Try.underlying27; clear hk0; obtain ⟨b, hb⟩ : ∃ b, b = decide (cl ∈ clsN k) := ⟨_, rfl⟩; rw [← hb]; unfold clsN at hb
 go_enter Try.func42, Try.ntmps42
 go_upto_region 1 with (fail)
 change Code.wp Try.prog _ _ _ (W.alloc (.cells #[.int .u8 k, .int .u8 w1, .int .i64 wd, .slice A n c] 27))
 rw [← hX]; clear hX; by_cases c1 : cl = 52
 ·have HV := zaa.mk (show b = (k == 52) by
   rw [hb, c1]; by_cases e : k = 52
   ·simp [e]
   ·by_cases e2 : k = 53 ∨ k = 54 ∨ k = 56 ∨ k = 57 ∨ k = 58 ∨ k = 59
    ·rw [if_pos e2]; simp [e]
    ·rw [if_neg e2, if_neg e]; by_cases e3 : k = 60 <;> simp [e3, e])
  clear hb; subst c1; go_wp2
  go_ret
  exact ⟨by rw [HV.out]; rfl, HBX.out⟩
 by_cases c2 : cl = 60
 ·have HV := zaa.mk (show b = (k == 60) by
   rw [hb, c2]; by_cases e : k = 60
   ·simp [e]
   ·by_cases e2 : k = 53 ∨ k = 54 ∨ k = 56 ∨ k = 57 ∨ k = 58 ∨ k = 59
    ·rw [if_pos e2]; simp [e]
    ·by_cases e3 : k = 52
     ·rw [if_neg e2, if_pos e3]; simp [e]
     ·rw [if_neg e2, if_neg e3, if_neg e]; simp [e])
  clear hb; subst c2; go_wp2
  go_ret
  exact ⟨by rw [HV.out]; rfl, HBX.out⟩
 have d1 : (cl == 52) = false := by simp [c1]
 have d2 : (cl == 60) = false := by simp [c2]
 by_cases c3 : cl = 59
 ·subst c3
  by_cases e : k = 53 ∨ k = 54 ∨ k = 56 ∨ k = 57 ∨ k = 58 ∨ k = 59 ∨ k = 52
  ·have HV := zaa.mk (show b = true by
    rw [hb]; by_cases e2 : k = 53 ∨ k = 54 ∨ k = 56 ∨ k = 57 ∨ k = 58 ∨ k = 59
    ·rw [if_pos e2]; simp
    ·rw [if_neg e2, if_pos (by omega)]; simp)
   clear hb c1 c2 d1 d2; rcases e with rfl | rfl | rfl | rfl | rfl | rfl | rfl
   all_goals (go_wp2; go_ret; exact ⟨by rw [HV.out]; rfl, HBX.out⟩)
  ·have HV := zaa.mk (show b = false by
    rw [hb, if_neg (by omega), if_neg (by omega)]
    by_cases e3 : k = 60 <;> simp [e3])
   have e1 : (k == 53) = false := by simp; omega
   have e2 : (k == 54) = false := by simp; omega
   have e3 : (k == 56) = false := by simp; omega
   have e4 : (k == 57) = false := by simp; omega
   have e5 : (k == 58) = false := by simp; omega
   have e6 : (k == 59) = false := by simp; omega
   have e7 : (k == 52) = false := by simp; omega
   clear hb c1 c2 d1 d2 e; go_wp2
   go_ret
   exact ⟨by rw [HV.out]; rfl, HBX.out⟩
 ·have HV := zaa.mk (show b = false by
   rw [hb]
   split
   ·simp [c3]
   ·split
    ·simp [c1, c3]
    ·split <;> simp [c2])
  have d3 : (cl == 59) = false := by simp [c3]
  clear hb c1 c2 c3; go_wp2
  go_ret
  exact ⟨by rw [HV.out]; rfl, HBX.out⟩
theorem counts12 (k : Int) (h0 : 0 ≤ k) : zaZ.f k = some (countsB k) := by
 unfold zaZ.f countsB triviaL
 by_cases c0 : k = 0; · subst c0; rfl
 by_cases c1 : k = 1; · subst c1; rfl
 by_cases c2 : k = 2; · subst c2; rfl
 by_cases c3 : k = 3; · subst c3; rfl
 by_cases c4 : k = 4; · subst c4; rfl
 by_cases c5 : k = 5; · subst c5; rfl
 by_cases c6 : k = 9; · subst c6; rfl
 simp only [if_neg c1, if_neg c2, if_neg c3, if_neg c4, if_neg c5, if_neg c6]; have hn : ([0, 1, 2, 3, 4, 5, 9] : List Int).contains k = false := by simp [c0, c1, c2, c3, c4, c5, c6]
 rw [hn]; unfold zaV.f
 rw [if_pos (show k ≥ 1 by omega)]
 by_cases d1 : k ≤ 17
 ·have d2 : k ≤ 40 := by omega
  simp [d1, d2]
 ·by_cases d2 : k ≥ 20
  ·have d3 : (20 : Int) ≤ k := d2
   simp [d1, d3]
  ·have d3 : ¬ (20 : Int) ≤ k := d2
   simp [d1, d3]
theorem next_bh (l : List S39) (hk : ∀ t ∈ l, 0 ≤ t.f0) (hl : l.length ≤ 1000000) (a : Nat) (ha : a ≤ l.length) : Ev (fun k => zaz.f k l a) (bh l a : Int) := by
 have hgo : ∀ (n i : Nat), l.length - i = n → i ≤ l.length → Ev (fun k => zaz.l0 k l a i) (bh l (max i a) : Int) := by
  intro n
  induction n with
  | zero =>
   intro i hn hi
   obtain rfl : i = l.length := by omega
   refine Ev.step (f := fun _ => some (l.length : Int)) (fun k => by rw [zaz.l0, if_neg (by omega)]) ?_
   rw [Nat.max_eq_left ha, bh_end]; exact Ev.now _
  | succ n ih =>
   intro i hn hi
   have hlt : i < l.length := by omega
   have hnx := ih (i + 1) (by omega) (by omega)
   have hw : wrap64 ((i : Int) + 1) = ((i + 1 : Nat) : Int) := by rw [wrap_id (by omega) (by omega)]; rfl
   by_cases hia : a ≤ i
   ·have hm : max i a = i := Nat.max_eq_left hia
    rw [Nat.max_eq_left (by omega)] at hnx
    rw [hm, bh_step l i hlt]; have hf0 : 0 ≤ (zbc l (i : Int)).f0 := by
     rw [show zbc l (i : Int) = l[i] by unfold zbc; simp [List.getD_eq_getElem?_getD, List.getElem?_eq_getElem hlt]]
     exact hk _ (List.getElem_mem hlt)
    cases hb : countsB (zbc l (i : Int)).f0 with
    | true => exact Ev.step (f := fun _ => some (i : Int)) (fun k => by rw [zaz.l0, if_pos (by omega), if_pos (by omega), if_pos (by omega), counts12 _ hf0, hb]; rfl) (by simpa using Ev.now (i : Int))
    | false => exact Ev.step (f := fun k => zaz.l0 k l a ((i + 1 : Nat) : Int)) (fun k => by rw [zaz.l0, if_pos (by omega), if_pos (by omega), if_pos (by omega), counts12 _ hf0, hb, hw]; rfl) (by simpa using hnx)
   ·have hm : max i a = a := Nat.max_eq_right (by omega)
    rw [Nat.max_eq_right (by omega)] at hnx
    rw [hm]; exact Ev.step (f := fun k => zaz.l0 k l a ((i + 1 : Nat) : Int)) (fun k => by rw [zaz.l0, if_pos (by omega), if_neg (by omega), hw]) hnx
 have := hgo l.length 0 rfl (Nat.zero_le _); rw [Nat.max_eq_right (Nat.zero_le _)] at this; exact Ev.congr (fun m => by unfold zaz.f; rfl) this
end Go.Proofs.Ytghbfjmmjfklfaa.H
namespace Go.Proofs.Ytghbfjmmjfklfaa.H
open Go.RowKit Go.ChangeShapes Go.WideShapes Go.Proofs.YtghbfjmmjfklfaaW.PrintWords Go.Proofs.YtghbfjmmjfklfaaW.PrintLast Go.Proofs.YtghbfjmmjfklfaaW.PrintMore
theorem wf_u8 {n : Int} (h : (Lit.int .u8 n).wf = true) : 0 ≤ n ∧ n ≤ 255 := bounds_u8 h
theorem wf_inI {n : Int} (h : (Lit.int .i64 n).wf = true) : inI n := bounds_i64 h
structure AskS where
 f0 : Int
 f1 : Int
def zAsk : AskS := ⟨0, 0⟩
instance : Inhabited AskS := ⟨zAsk⟩
def kAsk : Kd AskS := Kd.iso (Kd.pair (Kd.int .u8) (Kd.int .i64)) (fun x : AskS => (x.f0, x.f1))
theorem kAsk_open {w : World} {x : AskS} {cs : List Value} (h : kAsk.K w x cs) : cs = [.int .u8 x.f0, .int .i64 x.f1] := by
 obtain ⟨_, _, rfl, rfl, rfl⟩ := h; exact rfl
theorem cellsAsk : Try.prog.cellsOf 54 = 2 := by kernel_rfl
set_option maxRecDepth 100000 in
theorem opensAsk : Opens kAsk Try.prog 54 (fun t => (Lit.int .u8 t.f0).wf = true ∧ (Lit.int .i64 t.f1).wf = true) := ⟨cellsAsk.symm, fun H enc w base spare held fuel cs x h hz => by
 obtain ⟨y0, y1, n, rfl, hl, h0, h1⟩ := trod_struct2 Try.underlying54 h; rw [cellsAsk] at hl
 match cs, hl with
 | [c0, c1], _ =>
  simp only [cells5, cellsI] at h0 h1; obtain ⟨f0, k0, p0⟩ := opens5.2 H enc w base spare held n _ _ h0 (fun m hm => hz m (by simp [DataW.weights, Try.underlying54, DataW.weightsEach, hm]))
  obtain ⟨f1, k1, p1⟩ := opensI.2 H enc w base spare held n _ _ h1 (fun m hm => hz m (by simp [DataW.weights, Try.underlying54, DataW.weightsEach, hm]))
  exact ⟨⟨f0, f1⟩, ⟨[c0], [c1], rfl, k0, k1⟩, p0, p1⟩⟩
theorem ask_at {W : World} {A : Option Addr} {l : List AskS} (h : Kd.C kAsk W A l.length l) (i : Nat) (hi : i < l.length) (x : AskS) (hx : l[i]? = some x) : ∃ ad, A = some ad ∧ W.cell? (ad.add (i * 2)) = some (.int .u8 x.f0) ∧ W.cell? ⟨(ad.add (i * 2)).block, (ad.add (i * 2)).off + 1, none⟩ = some (.int .i64 x.f1) := by
 obtain ⟨ad, c, e, _, hK, hc0⟩ := Kd.C_get h zAsk (i : Int) (by omega) (by simpa using hi)
 have hc : ∀ j u, c[j]? = some u → W.cell? (ad.add (i * 2 + j)) = some u := fun j u hu => by have := hc0 j u hu; rw [Int.toNat_natCast] at this; exact this
 have hxe : l.getD i zAsk = x := by rw [List.getD_eq_getElem?_getD, hx]; rfl
 have hc' : c = [.int .u8 x.f0, .int .i64 x.f1] := by
  have := kAsk_open hK; rw [Int.toNat_natCast, hxe] at this; exact this
 subst hc'; exact ⟨ad, e, by simpa using hc 0 _ rfl, by rw [← zbp _ _ 1 (by omega)]; exact hc 1 _ rfl⟩
end Go.Proofs.Ytghbfjmmjfklfaa.H
