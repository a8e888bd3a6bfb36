/- TreeSpans, walked: it answers true. -/
import Derived.Test.YtcfeijdcanpflaaDoorQHSpansRow
import Derived.Test.YtcfeijdcanpflaaDoorQHAwake
import Derived.Test.YtcfeijdcanpflaaDoorQHxglossatorlaw15Grow
import Derived.Test.YtcfeijdcanpflaaDoorQHRound
import Derived.Sort.LoopGhostIn
import Derived.LoopIn
import Derived.LoopNIn
set_option linter.unusedVariables false
set_option linter.unusedSimpArgs false
namespace Go.Proofs.YtcfeijdcanpflaaDoor.H
open Go.RowKit Go.Shelf Go.Proofs.YtcfeijdcanpflaaDoorW.PrintWords Go.Proofs.YtcfeijdcanpflaaDoorW.PrintLast Go.Proofs.YtcfeijdcanpflaaDoorW.PrintMore
attribute [local go_sem] Oper.semAt_some
theorem spans_results (tmps : Array Value) (X : World) (b0 : Nat) (r : Bool) (h2 : tmps[2]?.getD undef = .pointer (some ⟨b0, 0, none⟩)) (c0 : X.cell? ⟨b0, 0, none⟩ = some (.bool r)) :
    (results Tryd.f3 tmps).run Tryd.prog X = .ok (.bool r) X := by
  simp [results, show Tryd.f3.results = #[.cell 2 4] from rfl, h2, c0, go_sem]
theorem wpListIn_append_run {F : Fence} {n : Nat} {P : Program} {w w' : World} {ops : Array Oper} {rest : List Oper} {o : Oper} {a : Act} {Q : Exit → Act → World → Prop} {v' : Value}
    (hg : o.guard = none) (s x : Operand) (t : TypeId) (hop : o.op = Op.call { callee := Callee.builtin Builtin.append, args := #[s, x], argTypes := #[t, t] })
    (hrun : (Builtin.append_ #[t, t] o.type #[a.eval s, a.eval x]).run P w = .ok v' w') (hK : wpListIn F n P ops Q rest (a.put o.dst v') w') : wpListIn F n P ops Q (o :: rest) a w := by
  refine wpListIn_plain hg fun K hK' => ?_
  unfold Oper.wpIn
  refine ⟨?_, ?_⟩
  · simp [Oper.about, hop, resolve, Target.leads, Sem.run_pure]
  · rw [Oper.semAt_plain F _ _ (by rw [hop]; intro c hc'; cases hc')]
    simp [execOp, hop, resolve, invoke, builtin, hrun, Result.andThen]
    exact hK' _ _ hK
def ersW {W0 : World} (pre : List (Told W0)) : List (S25 × Int × Int) := pre.map fun x => er x.1
theorem isEmpty_snoc {α : Type} (l : List α) (x : α) : (l ++ [x]).isEmpty = false := by cases l <;> rfl
theorem cell_one {X : World} {b : Nat} {v : Value} {t : TypeId} (h : X.heap[b]? = some (.cells #[v] t (0, 0))) : X.cell? ⟨b, 0, none⟩ = some v := by
  rw [blk_cell h]
  rfl
set_option maxHeartbeats 8000000 in
set_option maxRecDepth 100000 in
theorem spans_no (A0 : Option Addr) (c0 : Nat) (l0 : List S85) (w : World) (hr0 : Kd.C k85 w A0 l0.length l0) (hc0 : l0.length ≤ c0) (K : Nat) (hK : glossatorlaw15_Grow.f K l0 = some (0, 0, 0, [], false)) (htab : Tab w) :
    Calls Tryd.prog 3 #[.slice A0 l0.length c0] w fun e w' => e = .returned (.bool true) ∧ Below w.heap.size w w' := by
  refine (callsIn_wide (n := 3)).1 ?_
  have hu := Tryd.underlying25
  obtain ⟨W1, hW1⟩ : ∃ W1, W1 = w.alloc (.cells #[.bool false] 4) := ⟨_, rfl⟩
  have hb1 : Below w.heap.size w W1 := by rw [hW1]; exact below_alloc (Below.refl _ _) _
  have HR0 := Aside0.mk (show W1.heap[w.heap.size]? = some (.cells #[.bool false] 4 (0, 0)) by rw [hW1]; exact heap_alloc_new _ _)
  have HG := Aside0.mk (glossatorlaw15_Grow.calls K A0 c0 l0 0 0 0 [] false W1 (Kd.C_below hr0 hb1) hc0 hK)
  have HTAB := Aside0.mk htab
  have HB1 := Aside0.mk hb1
  clear hr0 hc0 hK htab hb1
  refine callsIn_of_wp_marks Tryd.func3 rfl trivial ?_ rfl
  simp only [Tryd.ntmps3, List.size_toArray, List.length_cons, List.length_nil, Nat.reduceAdd, Nat.reduceSub, Array.replicate_succ, Array.replicate_zero, List.push_toArray, List.append_toArray, List.nil_append, List.cons_append]
  gi_wp2
  refine ⟨trivial, ?_⟩
  rw [← hW1]
  refine (callsIn_wide.2 HG.out).mono ?_
  rintro e w2 ⟨v, rfl, hv, hb2⟩
  obtain ⟨A, c, e⟩ := Kd.R_slice hv
  subst e
  obtain ⟨W3, hW3⟩ : ∃ W3, W3 = w2.alloc (.cells #[.int .u8 0, .int .u8 0, .int .i64 0, .slice A 0 c] 25) := ⟨_, rfl⟩
  have hb3 : Below w2.heap.size w2 W3 := by rw [hW3]; exact below_alloc (Below.refl _ _) _
  have HB3 := Aside0.mk (below_step (below_step HB1.out hb2) hb3)
  have HR3 := Aside0.mk (blk_below (blk_below HR0.out hb2) hb3)
  have hW3' := Aside0.mk hW3
  clear hb2 hb3 hv hW1 hW3
  gi_wp2
  refine ⟨trivial, ?_⟩
  change CallsIn Fence.wide 2 Tryd.prog 7 _ (w2.alloc (.cells #[.int .u8 0, .int .u8 0, .int .i64 0, .slice A 0 c] 25)) _
  rw [← hW3'.out]
  refine (callsIn_wide.2 (awake_calls _ (HTAB.out.below HB3.out))).mono ?_
  rintro e w4 ⟨rfl, hb4⟩
  have hr4 := blk_below HR3.out hb4
  have z0 := cell_one hr4
  have zf := blk_frozen hr4 0
  have zl := blk_lt hr4
  have HR4 := Aside0.mk hr4
  have HB4 := Aside0.mk (below_step HB3.out hb4)
  clear hr4 hb4
  gi_wp2
  exact ⟨_, spans_results _ _ _ _ rfl (cell_one (blk_set HR4.out 0 (.bool true))), rfl, HB4.out.setCell (Nat.le_refl _) _⟩
set_option maxHeartbeats 8000000 in
set_option maxRecDepth 100000 in
theorem spans_yes (A0 : Option Addr) (c0 : Nat) (l0 : List S85) (w : World) (hr0 : Kd.C k85 w A0 l0.length l0) (hc0 : l0.length ≤ c0) (K : Nat) (tk tw twd : Int) (tl : List S25) (hbt : byteT ⟨tk, tw, twd, tl⟩) (hst : tsize ⟨tk, tw, twd, tl⟩ ≤ 3000) (hK : glossatorlaw15_Grow.f K l0 = some (tk, tw, twd, tl, true)) (htab : Tab w) :
    Calls Tryd.prog 3 #[.slice A0 l0.length c0] w fun e w' => e = .returned (.bool true) ∧ Below w.heap.size w w' := by
  refine (callsIn_wide (n := 3)).1 ?_
  have hu := Tryd.underlying25
  have hus := Tryd.underlying34
  obtain ⟨W1, hW1⟩ : ∃ W1, W1 = w.alloc (.cells #[.bool false] 4) := ⟨_, rfl⟩
  have hb1 : Below w.heap.size w W1 := by rw [hW1]; exact below_alloc (Below.refl _ _) _
  have HR0 := Aside0.mk (show W1.heap[w.heap.size]? = some (.cells #[.bool false] 4 (0, 0)) by rw [hW1]; exact heap_alloc_new _ _)
  have HG := Aside0.mk (glossatorlaw15_Grow.calls K A0 c0 l0 tk tw twd tl true W1 (Kd.C_below hr0 hb1) hc0 hK)
  have HTAB := Aside0.mk htab
  have HB1 := Aside0.mk hb1
  have HBT := Aside0.mk hbt
  have HST := Aside0.mk hst
  clear hr0 hc0 hK htab hb1 hbt hst
  refine callsIn_of_wp_marks Tryd.func3 rfl trivial ?_ rfl
  simp only [Tryd.ntmps3, List.size_toArray, List.length_cons, List.length_nil, Nat.reduceAdd, Nat.reduceSub, Array.replicate_succ, Array.replicate_zero, List.push_toArray, List.append_toArray, List.nil_append, List.cons_append]
  gi_wp2
  refine ⟨trivial, ?_⟩
  rw [← hW1]
  refine (callsIn_wide.2 HG.out).mono ?_
  rintro e w2 ⟨v, rfl, hv, hb2⟩
  obtain ⟨A, c, e⟩ := Kd.R_slice hv
  subst e
  obtain ⟨_, hlc, hC1⟩ := Kd.R_reads' hv
  obtain ⟨kids, hke, hTT⟩ := exists_AT w2 _ ⟨tk, tw, twd, tl⟩ (Nat.lt_succ_self _) A c hlc hC1
  simp only at hke hTT
  obtain ⟨T, hTe⟩ : ∃ T, T = AT.node tk tw twd A c kids := ⟨_, rfl⟩
  have HTT := Aside0.mk (show AtT w2 T by rw [hTe]; exact hTT)
  have hkl : tl.length = kids.length := by rw [← hke, eraseL_length]
  have HER := Aside0.mk (show T.erase = ⟨tk, tw, twd, tl⟩ by rw [hTe, AT.erase, hke])
  have HTE := Aside0.mk hTe
  rw [hkl]
  obtain ⟨W3, hW3⟩ : ∃ W3, W3 = ((w2.alloc (boxN tk tw twd A kids.length c)).alloc (.cells #[.slice none 0 0] 29)).alloc (.cells #[.bool true] 4) := ⟨_, rfl⟩
  obtain ⟨W4, hW4⟩ : ∃ W4, W4 = W3.alloc (boxN tk tw twd A kids.length c) := ⟨_, rfl⟩
  have hz3 : W3.heap.size = w2.heap.size + 3 := by rw [hW3]; simp
  have hz4 : W4.heap.size = W3.heap.size + 1 := by rw [hW4]; simp
  have hb3 : Below w2.heap.size w2 W3 := by rw [hW3]; exact Below.alloc (Below.alloc (below_alloc (Below.refl _ _) _) (by simp) _) (by simp; omega) _
  have hb4 : Below W3.heap.size W3 W4 := by rw [hW4]; exact below_alloc (Below.refl _ _) _
  have hlb : W3.heap[w2.heap.size + 1]? = some (.cells #[.slice none 0 0] 29 (0, 0)) := by
    rw [hW3, Below.heap_alloc _ _ _ (by simp)]
    have := heap_alloc_new (w2.alloc (boxN tk tw twd A kids.length c)) (.cells #[.slice none 0 0] 29)
    simpa using this
  have hfb : W3.heap[w2.heap.size + 1 + 1]? = some (.cells #[.bool true] 4 (0, 0)) := by
    rw [hW3]
    have := heap_alloc_new ((w2.alloc (boxN tk tw twd A kids.length c)).alloc (.cells #[.slice none 0 0] 29)) (.cells #[.bool true] 4)
    simpa using this
  have hnb : W4.heap[W3.heap.size]? = some (boxN tk tw twd A kids.length c) := by rw [hW4]; exact heap_alloc_new _ _
  have hxb : W3.heap[w2.heap.size]? = some (boxN tk tw twd A kids.length c) := by
    rw [hW3, Below.heap_alloc _ _ _ (by simp; omega), Below.heap_alloc _ _ _ (by simp)]
    exact heap_alloc_new _ _
  have HLB := Aside0.mk (blk_below hlb hb4)
  have HFB := Aside0.mk (blk_below hfb hb4)
  have HNB := Aside0.mk hnb
  have HSZ := Aside0.mk (And.intro hz3 hz4)
  have HB4 := Aside0.mk (below_step hb3 hb4)
  have HBW := Aside0.mk (below_step HB1.out hb2)
  have HR2 := Aside0.mk (blk_below HR0.out hb2)
  have HKL := Aside0.mk hkl
  clear hb2 hb3 hb4 hlb hfb hnb hxb hz3 hz4 hv hlc hC1 hke hTT hTe hkl hW1 HG HR0 HB1
  have hfn : ∀ W : World, (binOp .eql 31 (.func (.func 22) #[] #[.pointer (some ⟨W3.heap.size, 0, none⟩)]) .nilFunc).run Tryd.prog W = .ok (.bool false) W := fun W => by kernel_rfl
  gi_wp2
  refine ⟨trivial, ?_⟩
  change CallsIn Fence.wide 2 Tryd.prog 8 _ (((w2.alloc (boxN tk tw twd A kids.length c)).alloc (.cells #[.slice none 0 0] 29)).alloc (.cells #[.bool true] 4)) _
  rw [← hW3]
  refine (walkF_in _ _ _ _ _ _ _ _).mono ?_
  rintro e w5 ⟨rfl, rfl⟩
  rw [← hW4]
  obtain ⟨n0, hn0⟩ : ∃ n0, n0 = w2.heap.size := ⟨_, rfl⟩
  have HN0 := Aside0.mk hn0
  rw [← hn0] at HLB HFB HSZ ⊢
  clear hn0 hW3 hW4
  gi_wp2
  refine rangeF (w := W4) (gf := 22) (lb := #[.pointer (some ⟨W3.heap.size, 0, none⟩)]) rfl (enters_of Tryd.func22 (by kernel_rfl) rfl)
    (walk_stops w2 n0 W4.heap.size HN0.out (by have := HSZ.out; omega) [n0 + 1] (fun b hb => by rw [List.mem_singleton] at hb; have := HSZ.out; omega) W3.heap.size T W4 HTT.out (by rw [HN0.out]; exact HB4.out) (by rw [HTE.out]; exact HNB.out))
    (fun h k => Kp.trans h k) (fun W o o' h hc => Kp.record (fun b hb => by rw [List.mem_singleton] at hb; have := HSZ.out; omega) (by have := HSZ.out; omega) W o o' h hc) (Below.refl _ _) (fun _ => rfl)
    (fun pre X => ∃ v st, runS true [] (ersW pre) = some st ∧ X.heap[n0 + 1]? = some (.cells #[v] 29 (0, 0)) ∧ X.heap[n0 + 1 + 1]? = some (.cells #[.bool (ersW pre).isEmpty] 4 (0, 0)) ∧ OwnS n0 X v st ∧ Below n0 w2 X ∧ W4.heap.size + 2 ≤ X.heap.size)
    (fun c pre X => False)
    (fun s A B row hs hg hr => by
      obtain ⟨v, st, h1, h2, h3, h4, h5, h6⟩ := hs
      refine ⟨v, st, h1, own_cells () A B row h2 hg hr, own_cells () A B row h3 hg hr, h4.kept (fun k hk => hg.block k ?_ (fun e => ?_)), h5.grown hg (by have := h5.size; have := HN0.out; omega) (fun q hq => by have := (hr q hq).1; have := HSZ.out; omega), Nat.le_trans h6 hg.size⟩
      · obtain ⟨_, cur, hc⟩ := h4.lt k hk
        exact (Array.getElem?_eq_some_iff.1 hc).1
      · obtain ⟨_, cur, hc⟩ := h4.lt k hk
        obtain ⟨_, o, ho, hn⟩ := hr k e.symm
        rw [hc] at ho
        cases ho
        cases hn)
    (fun c s A B row hs hg hr => hs)
    (fun pre X h => by
      obtain ⟨v, st, h1, h2, h3, h4, h5, h6⟩ := h
      refine ⟨fun k hf => ?_, h6⟩
      obtain ⟨q, hq, u, hu', ho⟩ := hf
      rw [List.mem_singleton] at hq
      subst hq
      rw [blk_cell h2] at hu'
      simp at hu'
      subst hu'
      obtain ⟨_, cur, hc⟩ := h4.lt k ho
      exact (Array.getElem?_eq_some_iff.1 hc).1)
    (fun Wq hbq hsq => ⟨_, [], rfl, blk_below HLB.out hbq, blk_below HFB.out hbq, ⟨rfl, .inl ⟨rfl, rfl⟩⟩, (by rw [HN0.out]; exact HB4.out.trans (hbq.mono HB4.out.size)), hsq⟩)
    ?round ?done ?stop
  case round =>
    rintro l' pre ⟨⟨⟨nk, nw, nwd, nA, nc, nkids⟩, f, d⟩, hTn⟩ X C hX hI hp hC
    have hrun : ∃ s, runS true [] (ersW (pre ++ [⟨(AT.node nk nw nwd nA nc nkids, f, d), hTn⟩])) = some s := by
      refine run_prefix (by rw [← HER.out] at HBT; exact HBT.out) (by have := HST.out; rw [← HER.out] at this; omega) ?_
      obtain ⟨ys, hy⟩ := hp
      refine ⟨ys.map er, ?_⟩
      rw [← er_all, ← hy, List.map_append, ersW, List.map_map]
      rfl
    obtain ⟨s, hrun⟩ := hrun
    have ex : er (AT.node nk nw nwd nA nc nkids, f, d) = (⟨nk, nw, nwd, eraseL nkids⟩, f, d) := by simp [er, AT.erase]
    have hsn : ersW (pre ++ [⟨(AT.node nk nw nwd nA nc nkids, f, d), hTn⟩]) = ersW pre ++ [(⟨nk, nw, nwd, eraseL nkids⟩, f, d)] := by rw [ersW, List.map_append, List.map_singleton, ex]; rfl
    rw [hsn] at hrun
    have hplen : pre.length ≤ 3000 := by
      have h1 := List.IsPrefix.length_le hp
      simp only [List.length_map, List.length_append] at h1
      have h2 := all_length T
      rw [HER.out] at h2
      have := HST.out
      omega
    obtain ⟨xx, hxx⟩ : ∃ xx : Told w2, xx = ⟨(AT.node nk nw nwd nA nc nkids, f, d), hTn⟩ := ⟨_, rfl⟩
    rw [← hxx] at hsn hC hp
    obtain ⟨t, ht⟩ : ∃ t, t = wrap64 (f + nwd) := ⟨_, rfl⟩
    have HSN := Aside0.mk hsn
    have HRUN := Aside0.mk hrun
    have HPL := Aside0.mk hplen
    have HC := Aside0.mk hC
    have HTT2 := Aside0.mk ht
    have HI := Aside0.mk hI
    have HX := Aside0.mk hX
    obtain ⟨X2, hX2⟩ : ∃ X2, X2 = (X.alloc (.cells #[.int .i64 f, .int .i64 t] 34)).alloc (boxN nk nw nwd nA nkids.length nc) := ⟨_, rfl⟩
    have hbx2 : Below X.heap.size X X2 := by rw [hX2]; exact Below.alloc (below_alloc (Below.refl _ _) _) (by simp) _
    have hq8 : X2.heap[X.heap.size]? = some (.cells #[.int .i64 f, .int .i64 t] 34 (0, 0)) := by
      rw [hX2, Below.heap_alloc _ _ _ (by simp)]
      exact heap_alloc_new _ _
    have hq9 : X2.heap[X.heap.size + 1]? = some (boxN nk nw nwd nA nkids.length nc) := by
      rw [hX2]
      have := heap_alloc_new (X.alloc (.cells #[.int .i64 f, .int .i64 t] 34)) (boxN nk nw nwd nA nkids.length nc)
      simpa using this
    have HBX := Aside0.mk hbx2
    have HQ8 := Aside0.mk hq8
    have HQ9 := Aside0.mk hq9
    have HX2 := Aside0.mk hX2
    simp only [spanV, AT.val, AT.k, AT.w, AT.wd, AT.A, AT.c, AT.kids]
    rw [← ht]
    clear hsn hrun hplen hC hp hxx ht hI hX hbx2 hq8 hq9 hX2 ex
    gi_wp2
    rw [← HX2.out]
    obtain ⟨v, st, h1, h2, h3, h4, h5, h6⟩ := HI.out
    refine HC.out _ _ ⟨HBX.out.size, fun q o _ ho _ => (HBX.out.block q (Array.getElem?_eq_some_iff.1 ho).1).trans ho⟩ (Kp.of_below (fun b hb => by rw [List.mem_singleton] at hb; have := HSZ.out; omega) (by have := h5.size; have := HN0.out; omega) (by have := HX.out; omega) HBX.out) ⟨v, st, h1, blk_below h2 HBX.out, blk_below h3 HBX.out, h4.kept (fun k hk => HBX.out.block k (by obtain ⟨_, cur, hc⟩ := h4.lt k hk; exact (Array.getElem?_eq_some_iff.1 hc).1)), h5.trans (HBX.out.mono (by have := h5.size; have := HN0.out; omega)), Nat.le_trans h6 HBX.out.size⟩ (fun Wb hKb hIb hcells hszb => ?_)
    clear h1 h2 h3 h4 h5 h6 v st
    obtain ⟨v0, st, h1, h2, h3, h4, h5, h6⟩ := hIb
    have hst := run_snoc h1 HRUN.out
    have HLEN := Aside0.mk (show st.length ≤ 3000 by
      have := run_length _ _ _ _ h1
      rw [ersW, List.length_map, List.length_nil] at this
      have := HPL.out
      omega)
    obtain ⟨b, hb⟩ : ∃ b, b = (ersW pre).isEmpty := ⟨_, rfl⟩
    rw [← hb] at h3 hst
    unfold stepS at hst
    simp only [← HTT2.out] at hst
    cases hh : headS b st f t with
    | none => rw [hh] at hst; cases hst
    | some s1 =>
    rw [hh, Option.bind_some] at hst
    have hwd : wrap64 (t - f) = nwd := by
      by_cases hw : wrap64 (t - f) = nwd
      · exact hw
      · rw [if_neg hw] at hst; cases hst
    rw [if_pos hwd] at hst
    obtain ⟨q8, hq8⟩ : ∃ q8, q8 = X.heap.size := ⟨_, rfl⟩
    rw [← hq8]
    have HC8 := Aside0.mk (show Wb.heap[q8]? = some (.cells #[.int .i64 f, .int .i64 t] 34 (0, 0)) by rw [hq8]; exact hcells _ _ _ _ HQ8.out)
    have HC9 := Aside0.mk (show Wb.heap[q8 + 1]? = some (boxN nk nw nwd nA nkids.length nc) by rw [hq8]; exact hcells _ _ _ _ HQ9.out)
    have HQB := Aside0.mk (show W4.heap.size + 1 < q8 by rw [hq8]; exact HX.out)
    have HSQ := Aside0.mk (Sq.refl h2 h3 h4)
    have HPOP := Aside0.mk hst
    have HKB := Aside0.mk hKb
    have HL5 := Aside0.mk h5
    have HH := Aside0.mk hh
    have HW6 := Aside0.mk h6
    have HV0 := Aside0.mk (And.intro h2 h4)
    have HBE := Aside0.mk hb
    have y0 := cell_one h3
    clear h1 h2 h3 h4 h5 h6 hst hh hcells hszb hKb hq8 hb HC HI HQ8 HQ9 HX2 HBX HPL
    cases b with
    | true =>
      have hf0 : f = 0 ∧ s1 = st := by
        have h := HH.out
        unfold headS at h
        rw [if_pos rfl] at h
        by_cases h0 : f = 0
        · rw [if_pos h0] at h; injection h with h; exact ⟨h0, h.symm⟩
        · rw [if_neg h0] at h; cases h
      have e0 : (f != 0) = false := by simp [hf0.1]
      have HF0 := Aside0.mk hf0
      clear hf0
      obtain ⟨Av, cv, hv⟩ := HV0.out.2.slice
      subst hv
      obtain ⟨nn, hnn⟩ : ∃ nn, nn = st.length := ⟨_, rfl⟩
      rw [← hnn] at HSQ HV0
      obtain ⟨Y1, hY1⟩ : ∃ Y1, Y1 = Wb.setCell ⟨n0 + 1 + 1, 0, none⟩ (.bool false) := ⟨_, rfl⟩
      have hsq1 : Sq n0 (n0 + 1) (n0 + 1 + 1) (.slice Av nn cv) Wb (.slice Av nn cv) st false Y1 := by rw [hY1]; exact HSQ.out.flag (by omega) false
      obtain ⟨at_, hat⟩ : ∃ a, a = (if nk ≤ 50 then t else f) := ⟨_, rfl⟩
      obtain ⟨Y2, hY2⟩ : ∃ Y2, Y2 = Y1.alloc (.cells #[.int .i64 (nkids.length : Int), .int .i64 at_, .int .i64 t] 36) := ⟨_, rfl⟩
      have hn1 : n0 ≤ Y1.heap.size := by have := hsq1.size; have := HW6.out; have := HSZ.out; omega
      obtain ⟨g, cap, w1, hrun, hgr, hgo, hrow⟩ := hsq1.row.put (Y := Y2) hnn hn1 (by have := HLEN.out; omega) (by rw [hY2]; exact below_alloc (Below.refl _ _) _) ((nkids.length : Int), at_, t) (by rw [hY2]; exact heap_alloc_new _ _)
      have hsq2 := hsq1.list (by omega) hgr hn1 (v' := .slice (some ⟨g, 0, none⟩) (nn + 1) cap) (fun k hk => by simp only [Value.ownBlock, Option.some.injEq] at hk; subst hk; exact hgo) hrow
      have hz1 : Y1.heap.size = Wb.heap.size := by rw [hY1]; simp
      rw [hY2, hz1, hY1] at hrun
      have HP2 := Aside0.mk (show popS (((nkids.length : Int), at_, t) :: st) = some s by
        have h := HPOP.out
        rw [← hat, eraseL_length, HF0.out.2] at h
        exact h)
      have lw := (hgr.block (n0 + 1) (blk_lt hsq1.lbx) (fun e => (hsq1.nrow e.symm).1 rfl)).trans hsq1.lbx
      have HSQ2 := Aside0.mk hsq2
      have k0 := blk_cell HC8.out 0
      have k1 := blk_cell HC8.out 1
      have m0 := blk_cell HC9.out 0
      have m2 := blk_cell HC9.out 2
      have m3 := blk_cell HC9.out 3
      simp at k0 k1 m0 m2 m3
      have k5 := cell_one HSQ.out.lbx
      have lq := cell_one lw
      have lf := blk_frozen lw 0
      have ll := blk_lt lw
      have yf := blk_frozen HSQ.out.fbx 0
      have yl := blk_lt HSQ.out.fbx
      have n1 : q8 ≠ n0 + 1 + 1 := by have := HQB.out; have := HSZ.out; omega
      have n2 : q8 + 1 ≠ n0 + 1 + 1 := by have := HQB.out; have := HSZ.out; omega
      have n3 : n0 + 1 ≠ n0 + 1 + 1 := by omega
      clear hsq1 hsq2 hgr hgo hrow lw hn1 hz1 hY2
      by_cases cK : nk ≤ 50
      case' pos =>
        have dK : decide (nk ≤ 50) = true := decide_eq_true cK
        rw [if_pos cK] at hat
      case' neg =>
        have dK : decide (nk ≤ 50) = false := decide_eq_false cK
        rw [if_neg cK] at hat
      all_goals
        clear cK
        rw [hat] at hrun
        have HAT := Aside0.mk hat
        have HY1 := Aside0.mk hY1
        have HNN := Aside0.mk hnn
        clear hat hY1 hnn
        gi_wp2_with (gi_at_builtin; refine wpListIn_append_run rfl _ _ _ rfl hrun ?_)
        clear k0 k1 m0 m2 m3 k5 lq lf ll yf yl n1 n2 n3 hrun
        gi_loopg [] (nn + 1) (fun kq wr => ∃ v st', Aside0 (Sq n0 (n0 + 1) (n0 + 1 + 1) (.slice Av nn cv) Wb v st' false wr) ∧ Aside0 (popS st' = some s) ∧ Aside0 (kq = st'.length) ∧ st'.length ≤ 3001)
        case atStart => exact ⟨_, _, HSQ2, HP2, ⟨by simp [HNN.out]⟩, by have := HLEN.out; simp; omega⟩
        case round =>
          obtain ⟨v, st', HS, HP, HK, hlen⟩ := hrel
          cases st' with
          | nil =>
            obtain ⟨A1, c1, rfl⟩ := HS.out.row.slice
            have k5 := cell_one HS.out.lbx
            simp only [List.length_nil] at k5
            gi_wp2
            have hs0 : s = [] := by have h := HP.out; simp [popS] at h; exact h
            obtain ⟨f1, f2⟩ := HS.out.keeps (B := W4.heap.size) (by omega) (by have := HSZ.out; omega) (by have := HSZ.out; omega) HV0.out.1 HV0.out.2
            exact ⟨f1, HKB.out.trans f2, _, [], by rw [HSN.out, HRUN.out, hs0], HS.out.lbx, by rw [HSN.out, isEmpty_snoc]; exact HS.out.fbx, HS.out.row, HL5.out.trans HS.out.low, Nat.le_trans HW6.out HS.out.size⟩
          | cons o r =>
            obtain ⟨g1, cap1, cur1, rfl, hbg, hgr, hcap, t0, t1, t2⟩ := HS.out.row.top
            obtain ⟨m, hm⟩ : ∃ m, m = r.length := ⟨_, rfl⟩
            rw [← hm] at t0 t1 t2 HS hcap
            simp only [List.length_cons, ← hm] at hlen HK
            have k5 := cell_one HS.out.lbx
            have e1 : wrap64 ((m : Int) + 1 - 1) = (m : Int) := by unfold wrap64; omega
            have e2 : wrap64 (((m + 1 : Nat) : Int) - 1) = (m : Int) := by unfold wrap64; omega
            have e4 : IntKind.i64.wrap (m : Int) = (m : Int) := by
              have hw : (m : Int) % 2 ^ 64 = m := by omega
              simp only [IntKind.wrap, IntKind.signed, IntKind.bits, hw]
              rw [if_neg (by simp; omega)]
            have e5 : (m : Int) < (m : Int) + 1 := by omega
            have e6 : (0 : Int) ≤ (m : Int) := by omega
            have HM := Aside0.mk hm
            clear hm
            by_cases c0 : o.1 = 0
            · have d0 : (o.1 == 0) = true := by simp [c0]
              have hpp : o.2.1 = o.2.2 ∧ popS r = some s := by
                have h := HP.out
                simp only [popS, if_pos c0] at h
                by_cases h2 : o.2.1 = o.2.2
                · rw [if_pos h2] at h; exact ⟨h2, h⟩
                · rw [if_neg h2] at h; cases h
              have e3 : (o.2.1 != o.2.2) = false := by simp [hpp.1]
              have HPP := Aside0.mk hpp.2
              have C0 := Aside0.mk c0
              clear c0 hpp
              gi_wp2
              have hmix : Tryd.prog.follows .mixedOrders = true := by kernel_rfl
              refine round_need [0, 1, 2, 3, 4, 5, 6, 7, 8, 9, 10, 11, 12, 13, 14] (fun W' => W'.cell? ⟨n0 + 1, 0, none⟩ = some (.slice (some ⟨g1, 0, none⟩) (m + 1) cap1) ∧ W'.cell? ⟨g1, m * 3 + 1, none⟩ = some (.int .i64 o.2.1) ∧ W'.cell? ⟨g1, m * 3 + 2, none⟩ = some (.int .i64 o.2.2)) hmix (by kernel_rfl) (fun ⟨_, _, h⟩ => h) ?_
              have HS0 := Aside0.mk (show wr.drew.cell? ⟨n0 + 1, 0, none⟩ = some (.slice (some ⟨g1, 0, none⟩) (m + 1) cap1) ∧ wr.drew.cell? ⟨g1, m * 3 + 1, none⟩ = some (.int .i64 o.2.1) ∧ wr.drew.cell? ⟨g1, m * 3 + 2, none⟩ = some (.int .i64 o.2.2) from ⟨k5, t1, t2⟩)
              refine wpAnyN_take (i := 0) (v := ?_) rfl (by kernel_rfl) (by kernel_rfl) (by kernel_rfl) (by kernel_rfl) (fun _ _ _ h => h) (.inl ⟨by rfl, ?_⟩) HS0.out ?_
              rotate_left
              · (intro W' hW'; obtain ⟨s0, s1, s2⟩ := hW'; go_simp; try rfl)
              simp only [Act.put, List.setIfInBounds_toArray, List.set_cons_zero, List.set_cons_succ]
              refine wpAnyN_take (i := 1) (v := ?_) rfl (by kernel_rfl) (by kernel_rfl) (by kernel_rfl) (by kernel_rfl) (fun _ _ _ h => h) (.inl ⟨by rfl, ?_⟩) HS0.out ?_
              rotate_left
              · (intro W' hW'; obtain ⟨s0, s1, s2⟩ := hW'; go_simp; try rfl)
              simp only [Act.put, List.setIfInBounds_toArray, List.set_cons_zero, List.set_cons_succ]
              refine wpAnyN_take (i := 2) (v := ?_) rfl (by kernel_rfl) (by kernel_rfl) (by kernel_rfl) (by kernel_rfl) (fun _ _ _ h => h) (.inl ⟨by rfl, ?_⟩) HS0.out ?_
              rotate_left
              · (intro W' hW'; obtain ⟨s0, s1, s2⟩ := hW'; go_simp; try rfl)
              simp only [Act.put, List.setIfInBounds_toArray, List.set_cons_zero, List.set_cons_succ]
              refine wpAnyN_take (i := 3) (v := ?_) rfl (by kernel_rfl) (by kernel_rfl) (by kernel_rfl) (by kernel_rfl) (fun _ _ _ h => h) (.inl ⟨by rfl, ?_⟩) HS0.out ?_
              rotate_left
              · (intro W' hW'; obtain ⟨s0, s1, s2⟩ := hW'; go_simp; try rfl)
              simp only [Act.put, List.setIfInBounds_toArray, List.set_cons_zero, List.set_cons_succ]
              refine wpAnyN_take (i := 4) (v := ?_) rfl (by kernel_rfl) (by kernel_rfl) (by kernel_rfl) (by kernel_rfl) (fun _ _ _ h => h) (.inl ⟨by rfl, ?_⟩) HS0.out ?_
              rotate_left
              · (intro W' hW'; obtain ⟨s0, s1, s2⟩ := hW'; go_simp; try rfl)
              simp only [Act.put, List.setIfInBounds_toArray, List.set_cons_zero, List.set_cons_succ]
              refine wpAnyN_take (i := 5) (v := ?_) rfl (by kernel_rfl) (by kernel_rfl) (by kernel_rfl) (by kernel_rfl) (fun _ _ _ h => h) (.inl ⟨by rfl, ?_⟩) HS0.out ?_
              rotate_left
              · (intro W' hW'; obtain ⟨s0, s1, s2⟩ := hW'; go_simp; try rfl)
              simp only [Act.put, List.setIfInBounds_toArray, List.set_cons_zero, List.set_cons_succ]
              refine wpAnyN_take (i := 6) (v := ?_) rfl (by kernel_rfl) (by kernel_rfl) (by kernel_rfl) (by kernel_rfl) (fun _ _ _ h => h) (.inl ⟨by rfl, ?_⟩) HS0.out ?_
              rotate_left
              · (intro W' hW'; obtain ⟨s0, s1, s2⟩ := hW'; go_simp; try rfl)
              simp only [Act.put, List.setIfInBounds_toArray, List.set_cons_zero, List.set_cons_succ]
              refine wpAnyN_take (i := 7) (v := ?_) rfl (by kernel_rfl) (by kernel_rfl) (by kernel_rfl) (by kernel_rfl) (fun _ _ _ h => h) (.inl ⟨by rfl, ?_⟩) HS0.out ?_
              rotate_left
              · (intro W' hW'; obtain ⟨s0, s1, s2⟩ := hW'; go_simp; try rfl)
              simp only [Act.put, List.setIfInBounds_toArray, List.set_cons_zero, List.set_cons_succ]
              refine wpAnyN_take (i := 8) (v := ?_) rfl (by kernel_rfl) (by kernel_rfl) (by kernel_rfl) (by kernel_rfl) (fun _ _ _ h => h) (.inl ⟨by rfl, ?_⟩) HS0.out ?_
              rotate_left
              · (intro W' hW'; obtain ⟨s0, s1, s2⟩ := hW'; go_simp; try rfl)
              simp only [Act.put, List.setIfInBounds_toArray, List.set_cons_zero, List.set_cons_succ]
              refine wpAnyN_take (i := 9) (v := ?_) rfl (by kernel_rfl) (by kernel_rfl) (by kernel_rfl) (by kernel_rfl) (fun _ _ _ h => h) (.inl ⟨by rfl, ?_⟩) HS0.out ?_
              rotate_left
              · (intro W' hW'; obtain ⟨s0, s1, s2⟩ := hW'; go_simp; try rfl)
              simp only [Act.put, List.setIfInBounds_toArray, List.set_cons_zero, List.set_cons_succ]
              refine wpAnyN_take (i := 10) (v := ?_) rfl (by kernel_rfl) (by kernel_rfl) (by kernel_rfl) (by kernel_rfl) (fun _ _ _ h => h) (.inl ⟨by rfl, ?_⟩) HS0.out ?_
              rotate_left
              · (intro W' hW'; obtain ⟨s0, s1, s2⟩ := hW'; go_simp; try rfl)
              simp only [Act.put, List.setIfInBounds_toArray, List.set_cons_zero, List.set_cons_succ]
              refine wpAnyN_take (i := 11) (v := ?_) rfl (by kernel_rfl) (by kernel_rfl) (by kernel_rfl) (by kernel_rfl) (fun _ _ _ h => h) (.inl ⟨by rfl, ?_⟩) HS0.out ?_
              rotate_left
              · (intro W' hW'; obtain ⟨s0, s1, s2⟩ := hW'; go_simp; try rfl)
              simp only [Act.put, List.setIfInBounds_toArray, List.set_cons_zero, List.set_cons_succ]
              refine wpAnyN_take (i := 12) (v := ?_) rfl (by kernel_rfl) (by kernel_rfl) (by kernel_rfl) (by kernel_rfl) (fun _ _ _ h => h) (.inl ⟨by rfl, ?_⟩) HS0.out ?_
              rotate_left
              · (intro W' hW'; obtain ⟨s0, s1, s2⟩ := hW'; go_simp; try rfl)
              simp only [Act.put, List.setIfInBounds_toArray, List.set_cons_zero, List.set_cons_succ]
              refine wpAnyN_take (i := 13) (v := ?_) rfl (by kernel_rfl) (by kernel_rfl) (by kernel_rfl) (by kernel_rfl) (fun _ _ _ h => h) (.inl ⟨by rfl, ?_⟩) HS0.out ?_
              rotate_left
              · (intro W' hW'; obtain ⟨s0, s1, s2⟩ := hW'; go_simp; try rfl)
              simp only [Act.put, List.setIfInBounds_toArray, List.set_cons_zero, List.set_cons_succ]
              refine wpAnyN_take (i := 14) (v := ?_) rfl (by kernel_rfl) (by kernel_rfl) (by kernel_rfl) (by kernel_rfl) (fun _ _ _ h => h) (.inl ⟨by rfl, ?_⟩) HS0.out ?_
              rotate_left
              · (intro W' hW'; obtain ⟨s0, s1, s2⟩ := hW'; go_simp; try rfl)
              simp only [Act.put, List.setIfInBounds_toArray, List.set_cons_zero, List.set_cons_succ]
              refine wpAnyN_done (by kernel_rfl) ?_ _
              have hsd := HS.out.below (X' := wr.drew) (by have := HS.out.size; have := HW6.out; have := HSZ.out; omega) (Below.refl _ _).drew
              have HSD := Aside0.mk hsd
              have k6 := cell_one hsd.lbx
              have k7 := blk_frozen hsd.lbx 0
              have k8 := blk_lt hsd.lbx
              have k9 : m ≤ cap1 := by omega
              clear hsd k5 t0 t1 t2
              gi_wp2
              gi_roundg m
              case measure => have := HK.out; omega
              case rel =>
                have hn0 : n0 ≤ wr.drew.heap.size := by have h := HSD.out.size; have := HW6.out; have := HSZ.out; omega
                refine ⟨_, r, ⟨HSD.out.list (by omega) (v' := .slice (some ⟨g1, 0, none⟩) m cap1) (st' := r) ⟨rfl, rfl, rfl, Nat.le_refl _, fun k _ _ => rfl⟩ hn0 (fun k hk => .inl hk) ?_⟩, HPP, ⟨HM.out⟩, by have := HM.out; omega⟩
                have hc := HSD.out.row
                rw [HM.out] at hc ⊢
                exact hc.cut
            · have d0 : (o.1 == 0) = false := by simp [c0]
              have C0 := Aside0.mk c0
              clear c0
              gi_wp2
              have hs0 : s = o :: r := by have h := HP.out; simp only [popS, if_neg C0.out] at h; injection h with h; exact h.symm
              obtain ⟨f1, f2⟩ := HS.out.keeps (B := W4.heap.size) (by omega) (by have := HSZ.out; omega) (by have := HSZ.out; omega) HV0.out.1 HV0.out.2
              exact ⟨f1, HKB.out.trans f2, _, o :: r, by rw [HSN.out, HRUN.out, hs0], HS.out.lbx, by rw [HSN.out, isEmpty_snoc]; exact HS.out.fbx, HS.out.row, HL5.out.trans HS.out.low, Nat.le_trans HW6.out HS.out.size⟩
    | false =>
      obtain ⟨o, r, hor, hfo, hto, hs1⟩ : ∃ o r, st = o :: r ∧ o.2.1 = f ∧ t ≤ o.2.2 ∧ s1 = (wrap64 (o.1 - 1), t, o.2.2) :: r := by
        have h := HH.out
        unfold headS at h
        rw [if_neg (by simp)] at h
        cases st with
        | nil => simp at h
        | cons o r =>
          simp only at h
          by_cases h2 : o.2.1 = f ∧ t ≤ o.2.2
          · rw [if_pos h2] at h
            injection h with h
            exact ⟨o, r, rfl, h2.1, h2.2, h.symm⟩
          · rw [if_neg h2] at h; cases h
      subst hor
      obtain ⟨g0, cap0, cur0, hv, hbg, hgr0, hcap, t0, t1, t2⟩ := HSQ.out.row.top
      subst hv
      obtain ⟨m0, hm0⟩ : ∃ m0, m0 = r.length := ⟨_, rfl⟩
      have hlen0 : m0 + 1 ≤ 3000 := by have h := HLEN.out; rw [List.length_cons, ← hm0] at h; exact h
      rw [← hm0] at t0 t1 t2 hcap HSQ HV0
      have HG0 := Aside0.mk hgr0
      have HM0 := Aside0.mk hm0
      have HS1 := Aside0.mk hs1
      have e1 : wrap64 ((m0 : Int) + 1 - 1) = (m0 : Int) := by unfold wrap64; omega
      have e2 : wrap64 (((m0 + 1 : Nat) : Int) - 1) = (m0 : Int) := by unfold wrap64; omega
      have e4 : IntKind.i64.wrap (m0 : Int) = (m0 : Int) := by
        have hw : (m0 : Int) % 2 ^ 64 = m0 := by omega
        simp only [IntKind.wrap, IntKind.signed, IntKind.bits, hw]
        rw [if_neg (by simp; omega)]
      have e5 : (m0 : Int) < (m0 : Int) + 1 := by omega
      have e6 : (0 : Int) ≤ (m0 : Int) := by omega
      have e7 : ((m0 : Int) + 1 == 0) = false := by simp; omega
      have e8 : (o.2.1 != f) = false := by simp [hfo]
      have e9 : decide (t > o.2.2) = false := decide_eq_false (by omega)
      have e10 : decide (o.2.2 < t) = false := decide_eq_false (by omega)
      have HFO := Aside0.mk (And.intro hfo hto)
      clear hgr0 hm0 hs1 hfo hto hbg
      have k8 := blk_cell HC8.out 0
      have k9 := blk_cell HC8.out 1
      simp at k8 k9
      gi_wp2
      have hmix : Tryd.prog.follows .mixedOrders = true := by kernel_rfl
      refine round_need [0, 1, 2, 3, 4, 5, 6, 7, 8, 9, 10, 11, 12, 13, 14, 15, 16, 17, 18, 19, 20, 21, 22, 23, 24, 25, 26] (fun W' => W'.cell? ⟨n0 + 1, 0, none⟩ = some (.slice (some ⟨g0, 0, none⟩) (m0 + 1) cap0) ∧ W'.cell? ⟨g0, m0 * 3 + 1, none⟩ = some (.int .i64 o.2.1) ∧ W'.cell? ⟨g0, m0 * 3 + 2, none⟩ = some (.int .i64 o.2.2) ∧ W'.cell? ⟨q8, 0, none⟩ = some (.int .i64 f) ∧ W'.cell? ⟨q8, 1, none⟩ = some (.int .i64 t)) hmix (by kernel_rfl) (fun ⟨_, _, h⟩ => h) ?_
      obtain ⟨Yd, hYd⟩ : ∃ Yd, Yd = Wb.drew := ⟨_, rfl⟩
      rw [← hYd]
      have hbd : Below Wb.heap.size Wb Yd := by rw [hYd]; exact (Below.refl _ _).drew
      have hsd := HSQ.out.below (by have := HW6.out; have := HSZ.out; omega) hbd
      have HS0 := Aside0.mk (show Yd.cell? ⟨n0 + 1, 0, none⟩ = some (.slice (some ⟨g0, 0, none⟩) (m0 + 1) cap0) ∧ Yd.cell? ⟨g0, m0 * 3 + 1, none⟩ = some (.int .i64 o.2.1) ∧ Yd.cell? ⟨g0, m0 * 3 + 2, none⟩ = some (.int .i64 o.2.2) ∧ Yd.cell? ⟨q8, 0, none⟩ = some (.int .i64 f) ∧ Yd.cell? ⟨q8, 1, none⟩ = some (.int .i64 t) from ⟨cell_one hsd.lbx, by rw [hYd]; exact t1, by rw [hYd]; exact t2, by rw [hYd]; exact k8, by rw [hYd]; exact k9⟩)
      have HSD := Aside0.mk hsd
      have HD8 := Aside0.mk (blk_below HC8.out hbd)
      have HD9 := Aside0.mk (blk_below HC9.out hbd)
      have HGD := Aside0.mk (blk_below HG0.out hbd)
      have t0 : Yd.cell? ⟨g0, m0 * 3, none⟩ = some (.int .i64 o.1) := by rw [hYd]; exact t0
      have t1 := HS0.out.2.1
      have t2 := HS0.out.2.2.1
      clear hsd hYd hbd k8 k9 y0 HG0
      have HG0 := HGD
      refine wpAnyN_take (i := 0) (v := ?_) rfl (by kernel_rfl) (by kernel_rfl) (by kernel_rfl) (by kernel_rfl) (fun _ _ _ h => h) (.inl ⟨by rfl, ?_⟩) HS0.out ?_
      rotate_left
      · (intro W' hW'; obtain ⟨s0, s1, s2, s3, s4⟩ := hW'; go_simp; try rfl)
      simp only [Act.put, List.setIfInBounds_toArray, List.set_cons_zero, List.set_cons_succ]
      refine wpAnyN_take (i := 1) (v := ?_) rfl (by kernel_rfl) (by kernel_rfl) (by kernel_rfl) (by kernel_rfl) (fun _ _ _ h => h) (.inl ⟨by rfl, ?_⟩) HS0.out ?_
      rotate_left
      · (intro W' hW'; obtain ⟨s0, s1, s2, s3, s4⟩ := hW'; go_simp; try rfl)
      simp only [Act.put, List.setIfInBounds_toArray, List.set_cons_zero, List.set_cons_succ]
      refine wpAnyN_take (i := 2) (v := ?_) rfl (by kernel_rfl) (by kernel_rfl) (by kernel_rfl) (by kernel_rfl) (fun _ _ _ h => h) (.inl ⟨by rfl, ?_⟩) HS0.out ?_
      rotate_left
      · (intro W' hW'; obtain ⟨s0, s1, s2, s3, s4⟩ := hW'; go_simp; try rfl)
      simp only [Act.put, List.setIfInBounds_toArray, List.set_cons_zero, List.set_cons_succ]
      refine wpAnyN_take (i := 3) (v := ?_) rfl (by kernel_rfl) (by kernel_rfl) (by kernel_rfl) (by kernel_rfl) (fun _ _ _ h => h) (.inl ⟨by rfl, ?_⟩) HS0.out ?_
      rotate_left
      · (intro W' hW'; obtain ⟨s0, s1, s2, s3, s4⟩ := hW'; go_simp; try rfl)
      simp only [Act.put, List.setIfInBounds_toArray, List.set_cons_zero, List.set_cons_succ]
      refine wpAnyN_take (i := 4) (v := ?_) rfl (by kernel_rfl) (by kernel_rfl) (by kernel_rfl) (by kernel_rfl) (fun _ _ _ h => h) (.inl ⟨by rfl, ?_⟩) HS0.out ?_
      rotate_left
      · (intro W' hW'; obtain ⟨s0, s1, s2, s3, s4⟩ := hW'; go_simp; try rfl)
      simp only [Act.put, List.setIfInBounds_toArray, List.set_cons_zero, List.set_cons_succ]
      refine wpAnyN_take (i := 5) (v := ?_) rfl (by kernel_rfl) (by kernel_rfl) (by kernel_rfl) (by kernel_rfl) (fun _ _ _ h => h) (.inl ⟨by rfl, ?_⟩) HS0.out ?_
      rotate_left
      · (intro W' hW'; obtain ⟨s0, s1, s2, s3, s4⟩ := hW'; go_simp; try rfl)
      simp only [Act.put, List.setIfInBounds_toArray, List.set_cons_zero, List.set_cons_succ]
      refine wpAnyN_take (i := 6) (v := ?_) rfl (by kernel_rfl) (by kernel_rfl) (by kernel_rfl) (by kernel_rfl) (fun _ _ _ h => h) (.inl ⟨by rfl, ?_⟩) HS0.out ?_
      rotate_left
      · (intro W' hW'; obtain ⟨s0, s1, s2, s3, s4⟩ := hW'; go_simp; try rfl)
      simp only [Act.put, List.setIfInBounds_toArray, List.set_cons_zero, List.set_cons_succ]
      refine wpAnyN_take (i := 7) (v := ?_) rfl (by kernel_rfl) (by kernel_rfl) (by kernel_rfl) (by kernel_rfl) (fun _ _ _ h => h) (.inl ⟨by rfl, ?_⟩) HS0.out ?_
      rotate_left
      · (intro W' hW'; obtain ⟨s0, s1, s2, s3, s4⟩ := hW'; go_simp; try rfl)
      simp only [Act.put, List.setIfInBounds_toArray, List.set_cons_zero, List.set_cons_succ]
      refine wpAnyN_take (i := 8) (v := ?_) rfl (by kernel_rfl) (by kernel_rfl) (by kernel_rfl) (by kernel_rfl) (fun _ _ _ h => h) (.inl ⟨by rfl, ?_⟩) HS0.out ?_
      rotate_left
      · (intro W' hW'; obtain ⟨s0, s1, s2, s3, s4⟩ := hW'; go_simp; try rfl)
      simp only [Act.put, List.setIfInBounds_toArray, List.set_cons_zero, List.set_cons_succ]
      refine wpAnyN_take (i := 9) (v := ?_) rfl (by kernel_rfl) (by kernel_rfl) (by kernel_rfl) (by kernel_rfl) (fun _ _ _ h => h) (.inl ⟨by rfl, ?_⟩) HS0.out ?_
      rotate_left
      · (intro W' hW'; obtain ⟨s0, s1, s2, s3, s4⟩ := hW'; go_simp; try rfl)
      simp only [Act.put, List.setIfInBounds_toArray, List.set_cons_zero, List.set_cons_succ]
      refine wpAnyN_take (i := 10) (v := ?_) rfl (by kernel_rfl) (by kernel_rfl) (by kernel_rfl) (by kernel_rfl) (fun _ _ _ h => h) (.inl ⟨by rfl, ?_⟩) HS0.out ?_
      rotate_left
      · (intro W' hW'; obtain ⟨s0, s1, s2, s3, s4⟩ := hW'; go_simp; try rfl)
      simp only [Act.put, List.setIfInBounds_toArray, List.set_cons_zero, List.set_cons_succ]
      refine wpAnyN_take (i := 11) (v := ?_) rfl (by kernel_rfl) (by kernel_rfl) (by kernel_rfl) (by kernel_rfl) (fun _ _ _ h => h) (.inl ⟨by rfl, ?_⟩) HS0.out ?_
      rotate_left
      · (intro W' hW'; obtain ⟨s0, s1, s2, s3, s4⟩ := hW'; go_simp; try rfl)
      simp only [Act.put, List.setIfInBounds_toArray, List.set_cons_zero, List.set_cons_succ]
      refine wpAnyN_take (i := 12) (v := ?_) rfl (by kernel_rfl) (by kernel_rfl) (by kernel_rfl) (by kernel_rfl) (fun _ _ _ h => h) (.inl ⟨by rfl, ?_⟩) HS0.out ?_
      rotate_left
      · (intro W' hW'; obtain ⟨s0, s1, s2, s3, s4⟩ := hW'; go_simp; try rfl)
      simp only [Act.put, List.setIfInBounds_toArray, List.set_cons_zero, List.set_cons_succ]
      refine wpAnyN_take (i := 13) (v := ?_) rfl (by kernel_rfl) (by kernel_rfl) (by kernel_rfl) (by kernel_rfl) (fun _ _ _ h => h) (.inl ⟨by rfl, ?_⟩) HS0.out ?_
      rotate_left
      · (intro W' hW'; obtain ⟨s0, s1, s2, s3, s4⟩ := hW'; go_simp; try rfl)
      simp only [Act.put, List.setIfInBounds_toArray, List.set_cons_zero, List.set_cons_succ]
      refine wpAnyN_take (i := 14) (v := ?_) rfl (by kernel_rfl) (by kernel_rfl) (by kernel_rfl) (by kernel_rfl) (fun _ _ _ h => h) (.inl ⟨by rfl, ?_⟩) HS0.out ?_
      rotate_left
      · (intro W' hW'; obtain ⟨s0, s1, s2, s3, s4⟩ := hW'; go_simp; try rfl)
      simp only [Act.put, List.setIfInBounds_toArray, List.set_cons_zero, List.set_cons_succ]
      refine wpAnyN_take (i := 15) (v := ?_) rfl (by kernel_rfl) (by kernel_rfl) (by kernel_rfl) (by kernel_rfl) (fun _ _ _ h => h) (.inl ⟨by rfl, ?_⟩) HS0.out ?_
      rotate_left
      · (intro W' hW'; obtain ⟨s0, s1, s2, s3, s4⟩ := hW'; go_simp; try rfl)
      simp only [Act.put, List.setIfInBounds_toArray, List.set_cons_zero, List.set_cons_succ]
      refine wpAnyN_take (i := 16) (v := ?_) rfl (by kernel_rfl) (by kernel_rfl) (by kernel_rfl) (by kernel_rfl) (fun _ _ _ h => h) (.inl ⟨by rfl, ?_⟩) HS0.out ?_
      rotate_left
      · (intro W' hW'; obtain ⟨s0, s1, s2, s3, s4⟩ := hW'; go_simp; try rfl)
      simp only [Act.put, List.setIfInBounds_toArray, List.set_cons_zero, List.set_cons_succ]
      refine wpAnyN_take (i := 17) (v := ?_) rfl (by kernel_rfl) (by kernel_rfl) (by kernel_rfl) (by kernel_rfl) (fun _ _ _ h => h) (.inl ⟨by rfl, ?_⟩) HS0.out ?_
      rotate_left
      · (intro W' hW'; obtain ⟨s0, s1, s2, s3, s4⟩ := hW'; go_simp; try rfl)
      simp only [Act.put, List.setIfInBounds_toArray, List.set_cons_zero, List.set_cons_succ]
      refine wpAnyN_take (i := 18) (v := ?_) rfl (by kernel_rfl) (by kernel_rfl) (by kernel_rfl) (by kernel_rfl) (fun _ _ _ h => h) (.inl ⟨by rfl, ?_⟩) HS0.out ?_
      rotate_left
      · (intro W' hW'; obtain ⟨s0, s1, s2, s3, s4⟩ := hW'; go_simp; try rfl)
      simp only [Act.put, List.setIfInBounds_toArray, List.set_cons_zero, List.set_cons_succ]
      refine wpAnyN_take (i := 19) (v := ?_) rfl (by kernel_rfl) (by kernel_rfl) (by kernel_rfl) (by kernel_rfl) (fun _ _ _ h => h) (.inl ⟨by rfl, ?_⟩) HS0.out ?_
      rotate_left
      · (intro W' hW'; obtain ⟨s0, s1, s2, s3, s4⟩ := hW'; go_simp; try rfl)
      simp only [Act.put, List.setIfInBounds_toArray, List.set_cons_zero, List.set_cons_succ]
      refine wpAnyN_take (i := 20) (v := ?_) rfl (by kernel_rfl) (by kernel_rfl) (by kernel_rfl) (by kernel_rfl) (fun _ _ _ h => h) (.inl ⟨by rfl, ?_⟩) HS0.out ?_
      rotate_left
      · (intro W' hW'; obtain ⟨s0, s1, s2, s3, s4⟩ := hW'; go_simp; try rfl)
      simp only [Act.put, List.setIfInBounds_toArray, List.set_cons_zero, List.set_cons_succ]
      refine wpAnyN_take (i := 21) (v := ?_) rfl (by kernel_rfl) (by kernel_rfl) (by kernel_rfl) (by kernel_rfl) (fun _ _ _ h => h) (.inl ⟨by rfl, ?_⟩) HS0.out ?_
      rotate_left
      · (intro W' hW'; obtain ⟨s0, s1, s2, s3, s4⟩ := hW'; go_simp; try rfl)
      simp only [Act.put, List.setIfInBounds_toArray, List.set_cons_zero, List.set_cons_succ]
      refine wpAnyN_take (i := 22) (v := ?_) rfl (by kernel_rfl) (by kernel_rfl) (by kernel_rfl) (by kernel_rfl) (fun _ _ _ h => h) (.inl ⟨by rfl, ?_⟩) HS0.out ?_
      rotate_left
      · (intro W' hW'; obtain ⟨s0, s1, s2, s3, s4⟩ := hW'; go_simp; try rfl)
      simp only [Act.put, List.setIfInBounds_toArray, List.set_cons_zero, List.set_cons_succ]
      refine wpAnyN_take (i := 23) (v := ?_) rfl (by kernel_rfl) (by kernel_rfl) (by kernel_rfl) (by kernel_rfl) (fun _ _ _ h => h) (.inl ⟨by rfl, ?_⟩) HS0.out ?_
      rotate_left
      · (intro W' hW'; obtain ⟨s0, s1, s2, s3, s4⟩ := hW'; go_simp; try rfl)
      simp only [Act.put, List.setIfInBounds_toArray, List.set_cons_zero, List.set_cons_succ]
      refine wpAnyN_take (i := 24) (v := ?_) rfl (by kernel_rfl) (by kernel_rfl) (by kernel_rfl) (by kernel_rfl) (fun _ _ _ h => h) (.inl ⟨by rfl, ?_⟩) HS0.out ?_
      rotate_left
      · (intro W' hW'; obtain ⟨s0, s1, s2, s3, s4⟩ := hW'; go_simp; try rfl)
      simp only [Act.put, List.setIfInBounds_toArray, List.set_cons_zero, List.set_cons_succ]
      refine wpAnyN_take (i := 25) (v := ?_) rfl (by kernel_rfl) (by kernel_rfl) (by kernel_rfl) (by kernel_rfl) (fun _ _ _ h => h) (.inl ⟨by rfl, ?_⟩) HS0.out ?_
      rotate_left
      · (intro W' hW'; obtain ⟨s0, s1, s2, s3, s4⟩ := hW'; go_simp; try rfl)
      simp only [Act.put, List.setIfInBounds_toArray, List.set_cons_zero, List.set_cons_succ]
      refine wpAnyN_take (i := 26) (v := ?_) rfl (by kernel_rfl) (by kernel_rfl) (by kernel_rfl) (by kernel_rfl) (fun _ _ _ h => h) (.inl ⟨by rfl, ?_⟩) HS0.out ?_
      rotate_left
      · (intro W' hW'; obtain ⟨s0, s1, s2, s3, s4⟩ := hW'; go_simp; try rfl)
      simp only [Act.put, List.setIfInBounds_toArray, List.set_cons_zero, List.set_cons_succ]
      refine wpAnyN_done (by kernel_rfl) ?_ _
      have HN := Aside0.mk (show q8 ≠ g0 ∧ q8 + 1 ≠ g0 ∧ n0 + 1 ≠ g0 from ⟨fun e => (by have h := HG0.out; rw [← e, HD8.out] at h; cases h), fun e => (by have h := HG0.out; rw [← e, HD9.out] at h; cases h), fun e => (by have h := HG0.out; rw [← e, HSD.out.lbx] at h; cases h)⟩)
      obtain ⟨Y1, hY1⟩ : ∃ Y1, Y1 = (Yd.setCell ⟨g0, m0 * 3, none⟩ (.int .i64 (wrap64 (o.1 - 1)))).setCell ⟨g0, m0 * 3 + 1, none⟩ (.int .i64 t) := ⟨_, rfl⟩
      have hsq1 : Sq n0 (n0 + 1) (n0 + 1 + 1) (.slice (some ⟨g0, 0, none⟩) (m0 + 1) cap0) Wb (.slice (some ⟨g0, 0, none⟩) (m0 + 1) cap0) s1 false Y1 := by
        have h0 := HSD.out
        rw [HM0.out] at h0
        have h1 := h0.field 0 (by omega) (wrap64 (o.1 - 1)) (wrap64 (o.1 - 1), o.2.1, o.2.2) rfl
        have h2 := h1.field 1 (by omega) t (wrap64 (o.1 - 1), t, o.2.2) rfl
        rw [hY1, HS1.out, HM0.out]
        exact h2
      have hnn : m0 + 1 = s1.length := by rw [HS1.out, List.length_cons, HM0.out]
      obtain ⟨at_, hat⟩ : ∃ a, a = (if nk ≤ 50 then t else f) := ⟨_, rfl⟩
      obtain ⟨Y2, hY2⟩ : ∃ Y2, Y2 = Y1.alloc (.cells #[.int .i64 (nkids.length : Int), .int .i64 at_, .int .i64 t] 36) := ⟨_, rfl⟩
      have hn1 : n0 ≤ Y1.heap.size := by have := hsq1.size; have := HW6.out; have := HSZ.out; omega
      obtain ⟨g, cap, w1, hrun, hgr, hgo, hrow⟩ := hsq1.row.put (Y := Y2) hnn hn1 (by rw [← hnn]; have := HLEN.out; omega) (by rw [hY2]; exact below_alloc (Below.refl _ _) _) ((nkids.length : Int), at_, t) (by rw [hY2]; exact heap_alloc_new _ _)
      have hsq2 := hsq1.list (by omega) hgr hn1 (v' := .slice (some ⟨g, 0, none⟩) (m0 + 1 + 1) cap) (fun k hk => by simp only [Value.ownBlock, Option.some.injEq] at hk; subst hk; exact hgo) hrow
      have hz1 : Y1.heap.size = Yd.heap.size := by rw [hY1]; simp
      rw [hY2, hz1, hY1] at hrun
      have HP2 := Aside0.mk (show popS (((nkids.length : Int), at_, t) :: s1) = some s by
        have h := HPOP.out
        rw [← hat, eraseL_length] at h
        exact h)
      have lw := (hgr.block (n0 + 1) (blk_lt hsq1.lbx) (fun e => (hsq1.nrow e.symm).1 rfl)).trans hsq1.lbx
      have HSQ2 := Aside0.mk hsq2
      have k0 := blk_cell HD8.out 0
      have k1 := blk_cell HD8.out 1
      have m0_ := blk_cell HD9.out 0
      have m2_ := blk_cell HD9.out 2
      have m3_ := blk_cell HD9.out 3
      simp at k0 k1 m0_ m2_ m3_
      have k5 := cell_one HSD.out.lbx
      have lq := cell_one lw
      have lf := blk_frozen lw 0
      have ll := blk_lt lw
      have gf := fun j => blk_frozen HG0.out j
      have gl := blk_lt HG0.out
      have n1 : q8 ≠ g0 := HN.out.1
      have n2 : q8 + 1 ≠ g0 := HN.out.2.1
      have n3 : n0 + 1 ≠ g0 := HN.out.2.2
      clear hsq1 hsq2 hgr hgo hrow lw hn1 hz1 hY2
      by_cases cK : nk ≤ 50
      case' pos =>
        have dK : decide (nk ≤ 50) = true := decide_eq_true cK
        rw [if_pos cK] at hat
      case' neg =>
        have dK : decide (nk ≤ 50) = false := decide_eq_false cK
        rw [if_neg cK] at hat
      all_goals
        clear cK
        rw [hat] at hrun
        have HAT := Aside0.mk hat
        have HY1 := Aside0.mk hY1
        have HNN := Aside0.mk hnn
        clear hat hY1 hnn
        gi_wp2_with (gi_at_builtin; refine wpListIn_append_run rfl _ _ _ rfl hrun ?_)
        clear k0 k1 m0_ m2_ m3_ k5 lq lf ll gf gl n1 n2 n3 hrun t0 t1 t2 e1 e2 e4 e5 e6
        gi_loopg [] (m0 + 1 + 1) (fun kq wr => ∃ v st', Aside0 (Sq n0 (n0 + 1) (n0 + 1 + 1) (.slice (some ⟨g0, 0, none⟩) (m0 + 1) cap0) Wb v st' false wr) ∧ Aside0 (popS st' = some s) ∧ Aside0 (kq = st'.length) ∧ st'.length ≤ 3001)
        case atStart => exact ⟨_, _, HSQ2, HP2, ⟨by rw [List.length_cons, ← HNN.out]⟩, by rw [List.length_cons, ← HNN.out]; have := HLEN.out; omega⟩
        case round =>
          obtain ⟨v, st', HS, HP, HK, hlen⟩ := hrel
          cases st' with
          | nil =>
            obtain ⟨A1, c1, rfl⟩ := HS.out.row.slice
            have k5 := cell_one HS.out.lbx
            simp only [List.length_nil] at k5
            gi_wp2
            have hs0 : s = [] := by have h := HP.out; simp [popS] at h; exact h
            obtain ⟨f1, f2⟩ := HS.out.keeps (B := W4.heap.size) (by omega) (by have := HSZ.out; omega) (by have := HSZ.out; omega) HV0.out.1 HV0.out.2
            exact ⟨f1, HKB.out.trans f2, _, [], by rw [HSN.out, HRUN.out, hs0], HS.out.lbx, by rw [HSN.out, isEmpty_snoc]; exact HS.out.fbx, HS.out.row, HL5.out.trans HS.out.low, Nat.le_trans HW6.out HS.out.size⟩
          | cons o_ r_ =>
            obtain ⟨g1, cap1, cur1, rfl, hbg, hgr, hcap, t0, t1, t2⟩ := HS.out.row.top
            obtain ⟨m, hm⟩ : ∃ m, m = r_.length := ⟨_, rfl⟩
            rw [← hm] at t0 t1 t2 HS hcap
            simp only [List.length_cons, ← hm] at hlen HK
            have k5 := cell_one HS.out.lbx
            have e1 : wrap64 ((m : Int) + 1 - 1) = (m : Int) := by unfold wrap64; omega
            have e2 : wrap64 (((m + 1 : Nat) : Int) - 1) = (m : Int) := by unfold wrap64; omega
            have e4 : IntKind.i64.wrap (m : Int) = (m : Int) := by
              have hw : (m : Int) % 2 ^ 64 = m := by omega
              simp only [IntKind.wrap, IntKind.signed, IntKind.bits, hw]
              rw [if_neg (by simp; omega)]
            have e5 : (m : Int) < (m : Int) + 1 := by omega
            have e6 : (0 : Int) ≤ (m : Int) := by omega
            have HM := Aside0.mk hm
            clear hm
            by_cases c0 : o_.1 = 0
            · have d0 : (o_.1 == 0) = true := by simp [c0]
              have hpp : o_.2.1 = o_.2.2 ∧ popS r_ = some s := by
                have h := HP.out
                simp only [popS, if_pos c0] at h
                by_cases h2 : o_.2.1 = o_.2.2
                · rw [if_pos h2] at h; exact ⟨h2, h⟩
                · rw [if_neg h2] at h; cases h
              have e3 : (o_.2.1 != o_.2.2) = false := by simp [hpp.1]
              have HPP := Aside0.mk hpp.2
              have C0 := Aside0.mk c0
              clear c0 hpp
              gi_wp2
              have hmix : Tryd.prog.follows .mixedOrders = true := by kernel_rfl
              refine round_need [0, 1, 2, 3, 4, 5, 6, 7, 8, 9, 10, 11, 12, 13, 14] (fun W' => W'.cell? ⟨n0 + 1, 0, none⟩ = some (.slice (some ⟨g1, 0, none⟩) (m + 1) cap1) ∧ W'.cell? ⟨g1, m * 3 + 1, none⟩ = some (.int .i64 o_.2.1) ∧ W'.cell? ⟨g1, m * 3 + 2, none⟩ = some (.int .i64 o_.2.2)) hmix (by kernel_rfl) (fun ⟨_, _, h⟩ => h) ?_
              have HS0 := Aside0.mk (show wr.drew.cell? ⟨n0 + 1, 0, none⟩ = some (.slice (some ⟨g1, 0, none⟩) (m + 1) cap1) ∧ wr.drew.cell? ⟨g1, m * 3 + 1, none⟩ = some (.int .i64 o_.2.1) ∧ wr.drew.cell? ⟨g1, m * 3 + 2, none⟩ = some (.int .i64 o_.2.2) from ⟨k5, t1, t2⟩)
              refine wpAnyN_take (i := 0) (v := ?_) rfl (by kernel_rfl) (by kernel_rfl) (by kernel_rfl) (by kernel_rfl) (fun _ _ _ h => h) (.inl ⟨by rfl, ?_⟩) HS0.out ?_
              rotate_left
              · (intro W' hW'; obtain ⟨s0, s1, s2⟩ := hW'; go_simp; try rfl)
              simp only [Act.put, List.setIfInBounds_toArray, List.set_cons_zero, List.set_cons_succ]
              refine wpAnyN_take (i := 1) (v := ?_) rfl (by kernel_rfl) (by kernel_rfl) (by kernel_rfl) (by kernel_rfl) (fun _ _ _ h => h) (.inl ⟨by rfl, ?_⟩) HS0.out ?_
              rotate_left
              · (intro W' hW'; obtain ⟨s0, s1, s2⟩ := hW'; go_simp; try rfl)
              simp only [Act.put, List.setIfInBounds_toArray, List.set_cons_zero, List.set_cons_succ]
              refine wpAnyN_take (i := 2) (v := ?_) rfl (by kernel_rfl) (by kernel_rfl) (by kernel_rfl) (by kernel_rfl) (fun _ _ _ h => h) (.inl ⟨by rfl, ?_⟩) HS0.out ?_
              rotate_left
              · (intro W' hW'; obtain ⟨s0, s1, s2⟩ := hW'; go_simp; try rfl)
              simp only [Act.put, List.setIfInBounds_toArray, List.set_cons_zero, List.set_cons_succ]
              refine wpAnyN_take (i := 3) (v := ?_) rfl (by kernel_rfl) (by kernel_rfl) (by kernel_rfl) (by kernel_rfl) (fun _ _ _ h => h) (.inl ⟨by rfl, ?_⟩) HS0.out ?_
              rotate_left
              · (intro W' hW'; obtain ⟨s0, s1, s2⟩ := hW'; go_simp; try rfl)
              simp only [Act.put, List.setIfInBounds_toArray, List.set_cons_zero, List.set_cons_succ]
              refine wpAnyN_take (i := 4) (v := ?_) rfl (by kernel_rfl) (by kernel_rfl) (by kernel_rfl) (by kernel_rfl) (fun _ _ _ h => h) (.inl ⟨by rfl, ?_⟩) HS0.out ?_
              rotate_left
              · (intro W' hW'; obtain ⟨s0, s1, s2⟩ := hW'; go_simp; try rfl)
              simp only [Act.put, List.setIfInBounds_toArray, List.set_cons_zero, List.set_cons_succ]
              refine wpAnyN_take (i := 5) (v := ?_) rfl (by kernel_rfl) (by kernel_rfl) (by kernel_rfl) (by kernel_rfl) (fun _ _ _ h => h) (.inl ⟨by rfl, ?_⟩) HS0.out ?_
              rotate_left
              · (intro W' hW'; obtain ⟨s0, s1, s2⟩ := hW'; go_simp; try rfl)
              simp only [Act.put, List.setIfInBounds_toArray, List.set_cons_zero, List.set_cons_succ]
              refine wpAnyN_take (i := 6) (v := ?_) rfl (by kernel_rfl) (by kernel_rfl) (by kernel_rfl) (by kernel_rfl) (fun _ _ _ h => h) (.inl ⟨by rfl, ?_⟩) HS0.out ?_
              rotate_left
              · (intro W' hW'; obtain ⟨s0, s1, s2⟩ := hW'; go_simp; try rfl)
              simp only [Act.put, List.setIfInBounds_toArray, List.set_cons_zero, List.set_cons_succ]
              refine wpAnyN_take (i := 7) (v := ?_) rfl (by kernel_rfl) (by kernel_rfl) (by kernel_rfl) (by kernel_rfl) (fun _ _ _ h => h) (.inl ⟨by rfl, ?_⟩) HS0.out ?_
              rotate_left
              · (intro W' hW'; obtain ⟨s0, s1, s2⟩ := hW'; go_simp; try rfl)
              simp only [Act.put, List.setIfInBounds_toArray, List.set_cons_zero, List.set_cons_succ]
              refine wpAnyN_take (i := 8) (v := ?_) rfl (by kernel_rfl) (by kernel_rfl) (by kernel_rfl) (by kernel_rfl) (fun _ _ _ h => h) (.inl ⟨by rfl, ?_⟩) HS0.out ?_
              rotate_left
              · (intro W' hW'; obtain ⟨s0, s1, s2⟩ := hW'; go_simp; try rfl)
              simp only [Act.put, List.setIfInBounds_toArray, List.set_cons_zero, List.set_cons_succ]
              refine wpAnyN_take (i := 9) (v := ?_) rfl (by kernel_rfl) (by kernel_rfl) (by kernel_rfl) (by kernel_rfl) (fun _ _ _ h => h) (.inl ⟨by rfl, ?_⟩) HS0.out ?_
              rotate_left
              · (intro W' hW'; obtain ⟨s0, s1, s2⟩ := hW'; go_simp; try rfl)
              simp only [Act.put, List.setIfInBounds_toArray, List.set_cons_zero, List.set_cons_succ]
              refine wpAnyN_take (i := 10) (v := ?_) rfl (by kernel_rfl) (by kernel_rfl) (by kernel_rfl) (by kernel_rfl) (fun _ _ _ h => h) (.inl ⟨by rfl, ?_⟩) HS0.out ?_
              rotate_left
              · (intro W' hW'; obtain ⟨s0, s1, s2⟩ := hW'; go_simp; try rfl)
              simp only [Act.put, List.setIfInBounds_toArray, List.set_cons_zero, List.set_cons_succ]
              refine wpAnyN_take (i := 11) (v := ?_) rfl (by kernel_rfl) (by kernel_rfl) (by kernel_rfl) (by kernel_rfl) (fun _ _ _ h => h) (.inl ⟨by rfl, ?_⟩) HS0.out ?_
              rotate_left
              · (intro W' hW'; obtain ⟨s0, s1, s2⟩ := hW'; go_simp; try rfl)
              simp only [Act.put, List.setIfInBounds_toArray, List.set_cons_zero, List.set_cons_succ]
              refine wpAnyN_take (i := 12) (v := ?_) rfl (by kernel_rfl) (by kernel_rfl) (by kernel_rfl) (by kernel_rfl) (fun _ _ _ h => h) (.inl ⟨by rfl, ?_⟩) HS0.out ?_
              rotate_left
              · (intro W' hW'; obtain ⟨s0, s1, s2⟩ := hW'; go_simp; try rfl)
              simp only [Act.put, List.setIfInBounds_toArray, List.set_cons_zero, List.set_cons_succ]
              refine wpAnyN_take (i := 13) (v := ?_) rfl (by kernel_rfl) (by kernel_rfl) (by kernel_rfl) (by kernel_rfl) (fun _ _ _ h => h) (.inl ⟨by rfl, ?_⟩) HS0.out ?_
              rotate_left
              · (intro W' hW'; obtain ⟨s0, s1, s2⟩ := hW'; go_simp; try rfl)
              simp only [Act.put, List.setIfInBounds_toArray, List.set_cons_zero, List.set_cons_succ]
              refine wpAnyN_take (i := 14) (v := ?_) rfl (by kernel_rfl) (by kernel_rfl) (by kernel_rfl) (by kernel_rfl) (fun _ _ _ h => h) (.inl ⟨by rfl, ?_⟩) HS0.out ?_
              rotate_left
              · (intro W' hW'; obtain ⟨s0, s1, s2⟩ := hW'; go_simp; try rfl)
              simp only [Act.put, List.setIfInBounds_toArray, List.set_cons_zero, List.set_cons_succ]
              refine wpAnyN_done (by kernel_rfl) ?_ _
              have hsd := HS.out.below (X' := wr.drew) (by have := HS.out.size; have := HW6.out; have := HSZ.out; omega) (Below.refl _ _).drew
              have HSD := Aside0.mk hsd
              have k6 := cell_one hsd.lbx
              have k7 := blk_frozen hsd.lbx 0
              have k8 := blk_lt hsd.lbx
              have k9 : m ≤ cap1 := by omega
              clear hsd k5 t0 t1 t2
              gi_wp2
              gi_roundg m
              case measure => have := HK.out; omega
              case rel =>
                have hn0 : n0 ≤ wr.drew.heap.size := by have h := HSD.out.size; have := HW6.out; have := HSZ.out; omega
                refine ⟨_, r_, ⟨HSD.out.list (by omega) (v' := .slice (some ⟨g1, 0, none⟩) m cap1) (st' := r_) ⟨rfl, rfl, rfl, Nat.le_refl _, fun k _ _ => rfl⟩ hn0 (fun k hk => .inl hk) ?_⟩, HPP, ⟨HM.out⟩, by have := HM.out; omega⟩
                have hc := HSD.out.row
                rw [HM.out] at hc ⊢
                exact hc.cut
            · have d0 : (o_.1 == 0) = false := by simp [c0]
              have C0 := Aside0.mk c0
              clear c0
              gi_wp2
              have hs0 : s = o_ :: r_ := by have h := HP.out; simp only [popS, if_neg C0.out] at h; injection h with h; exact h.symm
              obtain ⟨f1, f2⟩ := HS.out.keeps (B := W4.heap.size) (by omega) (by have := HSZ.out; omega) (by have := HSZ.out; omega) HV0.out.1 HV0.out.2
              exact ⟨f1, HKB.out.trans f2, _, o_ :: r_, by rw [HSN.out, HRUN.out, hs0], HS.out.lbx, by rw [HSN.out, isEmpty_snoc]; exact HS.out.fbx, HS.out.row, HL5.out.trans HS.out.low, Nat.le_trans HW6.out HS.out.size⟩
  case done =>
    rintro xs X hS ⟨v, st, h1, h2, h3, h4, h5, h6⟩ hD
    have hst : st = [] := by
      have h := run_all (t := T.erase) (by rw [HER.out]; exact HBT.out) (by rw [HER.out]; have := HST.out; omega)
      rw [← er_all, ← hS, List.map_map] at h
      have h' : runS true [] (ersW xs) = some [] := h
      rw [h1] at h'
      injection h'
    subst hst
    obtain ⟨A1, c1, hv⟩ := h4.slice
    subst hv
    have k5 := cell_one h2
    simp only [List.length_nil] at k5
    have HD := Aside0.mk hD
    have HL := Aside0.mk h5
    have HRX := Aside0.mk ((h5.block (w.heap.size) (by have h := blk_lt HR2.out; have := HN0.out; omega)).trans HR2.out)
    have HWX := Aside0.mk (show Below w.heap.size w X from HBW.out.trans (h5.mono (by have := HBW.out.size; have := HN0.out; omega)))
    clear hD h1 h2 h3 h4 h5 h6 hfn
    gi_wp2
    refine ⟨trivial, ?_⟩
    refine (callsIn_wide.2 (awake_calls _ (HTAB.out.below HWX.out))).mono ?_
    rintro e X3 ⟨rfl, hb3⟩
    have hr3 := blk_below HRX.out hb3
    have z0 := cell_one hr3
    have zf := blk_frozen hr3 0
    have zl := blk_lt hr3
    have HR3 := Aside0.mk hr3
    have HD3 := Aside0.mk (blk_below HD.out hb3)
    have HW3 := Aside0.mk (below_step HWX.out hb3)
    clear hr3 hb3 k5
    gi_wp2
    have hdd := (Below.heap_setCell X3 ⟨w.heap.size, 0, none⟩ (.bool true) W4.heap.size (by have := HBW.out.size; have := HSZ.out; have := HN0.out; simp only; omega)).trans HD3.out
    refine ⟨by simp, .inl ⟨_, _, rfl, run_takeDeferred hdd, ?_⟩⟩
    exact ⟨_, spans_results _ _ _ _ rfl (cell_one ((World.putObj_heap_other (by have := HBW.out.size; have := HSZ.out; have := HN0.out; omega)).trans (blk_set HR3.out 0 (.bool true)))), rfl, (HW3.out.setCell (Nat.le_refl _) _).trans (below_putObj _ _ (by have := HBW.out.size; have := HSZ.out; have := HN0.out; omega))⟩
  case stop =>
    rintro c pre X hS hf hD
    exact hf.elim
theorem spans_law (A0 : Option Addr) (c0 : Nat) (l0 : List S85) (w : World) (hr0 : Kd.C k85 w A0 l0.length l0) (hc0 : l0.length ≤ c0) (hr : ∀ r ∈ l0, rowOk r) (htab : Tab w) :
    Calls Tryd.prog 3 #[.slice A0 l0.length c0] w fun e w' => e = .returned (.bool true) ∧ Below w.heap.size w w' := by
  rcases Grow_ev l0 hr with ⟨K, hK⟩ | ⟨t, ⟨K, hK⟩, hb, ht⟩
  · exact spans_no A0 c0 l0 w hr0 hc0 K (hK K (Nat.le_refl _)) htab
  · obtain ⟨tk, tw, twd, tl⟩ := t
    exact spans_yes A0 c0 l0 w hr0 hc0 K tk tw twd tl hb ht (hK K (Nat.le_refl _)) htab
end Go.Proofs.YtcfeijdcanpflaaDoor.H
