import Derived.Test.YtceddikbmbadlaaQHFaultsIter
import Derived.Test.YtceddikbmbadlaaQHAppendRound
set_option linter.unusedVariables false
set_option linter.unusedSimpArgs false
namespace Go.Proofs.Ytceddikbmbadlaa.H
open Go.RowKit Go.Shelf Go.Proofs.YtceddikbmbadlaaW.PrintWords Go.Proofs.YtceddikbmbadlaaW.PrintLast Go.Proofs.YtceddikbmbadlaaW.PrintMore
attribute [local go_sem] Oper.semAt_some
/-- An append whose run is known, in a list of operations. -/
theorem wpListIn_append_run {F : Fence} {n : Nat} {P : Program} {w w' : World} {ops : Array Oper} {rest : List Oper} {o : Oper} {a : Act} {Q : Exit → Act → World → Prop} {v' : Value}
    (hg : o.guard = none) (s x : Operand) (t : TypeId) (hop : o.op = Op.call { callee := Callee.builtin Builtin.append, args := #[s, x], argTypes := #[t, t] })
    (hrun : (Builtin.append_ #[t, t] o.type #[a.eval s, a.eval x]).run P w = .ok v' w') (hK : wpListIn F n P ops Q rest (a.put o.dst v') w') : wpListIn F n P ops Q (o :: rest) a w := by
  refine wpListIn_plain hg fun K hK' => ?_
  unfold Oper.wpIn
  refine ⟨?_, ?_⟩
  · simp [Oper.about, hop, resolve, Target.leads, Sem.run_pure]
  · rw [Oper.semAt_plain F _ _ (by rw [hop]; intro c hc'; cases hc')]
    simp [execOp, hop, resolve, invoke, builtin, hrun, Result.andThen]
    exact hK' _ _ hK
def faultO (x : AT × Int × Int) : S44 := ⟨⟨x.2.1, wrap64 (x.2.1 + x.1.wd)⟩, x.1.k, wantOf x.1.k x.1.w⟩
theorem infoFault : (Try.prog.info? 44).map (fun i => (i.zero, i.size, i.bytes)) = some (some (.agg #[.int .i64 0, .int .i64 0, .int .u8 0, .int .u8 0]), 4, 24) := by kernel_rfl
theorem own_R' {α : Type} {d : Kd α} {e base B : Nat} {ok : Nat → Prop} {v : Value} {xs : List α} {X X' : World} {row : Option Nat} (h : d.R e X base ok v xs) (hg : X.grownBy X' row) (hr : ∀ r, row = some r → B ≤ r ∧ ∃ o : Obj, X.heap[r]? = some o ∧ o.isCells = false) : d.R e X' base ok v xs :=
  Kd.R_mono (Kd.R_step (Kd.R_bound h) (fun k hk hlt => hg.block k hlt (fun he => by
    obtain ⟨_, _, _, q, _, cells, hc⟩ := hk
    obtain ⟨_, o, ho, hn⟩ := hr k he.symm
    rw [hc] at ho
    cases ho
    cases hn))) (fun _ hk => hk.1)
set_option maxHeartbeats 4000000 in
set_option maxRecDepth 100000 in
theorem collect_in (nb : Nat) (T : AT) (n : Nat) (w : World) (hT : AtT w T) (hnb : w.heap[nb]? = some (boxN T.k T.w T.wd T.A T.kids.length T.c)) (hN : T.all.length ≤ 2000000) :
    CallsIn Fence.wide n Try.prog 40 #[.slice none 0 0, .func (.func 41) #[] #[.pointer (some ⟨nb, 0, none⟩)]] w fun e w' => ∃ v, e = .returned v ∧ Kd.R k44 44 w' w.heap.size (fun _ => True) v ((T.all.filter fun x => faultB x.1.k).map faultO) ∧ Below w.heap.size w w' := by
  obtain ⟨W1, hW1⟩ : ∃ W1, W1 = w.alloc (.cells #[.slice none 0 0] 37) := ⟨_, rfl⟩
  have hb1 : Below w.heap.size w W1 := by rw [hW1]; exact below_alloc (Below.refl _ _) _
  have hob : W1.heap[w.heap.size]? = some (.cells #[.slice none 0 0] 37 (0, 0)) := by rw [hW1]; exact heap_alloc_new _ _
  have hs1 : W1.heap.size = w.heap.size + 1 := by rw [hW1]; simp
  have HB1 := Aside0.mk hb1
  have HOB := Aside0.mk hob
  have HS1 := Aside0.mk hs1
  have HNB := Aside0.mk (blk_below hnb hb1)
  clear hb1 hob hs1 hnb
  refine callsIn_of_wp_marks Try.func40 rfl trivial ?_ rfl
  simp only [Try.ntmps40, List.size_toArray, List.length_cons, List.length_nil, Nat.reduceAdd, Nat.reduceSub, Array.replicate_succ, Array.replicate_zero, List.push_toArray, List.append_toArray, List.nil_append, List.cons_append]
  gi_wp2
  rw [← hW1]
  clear hW1
  have hbx : ∀ b ∈ [w.heap.size], b < W1.heap.size := fun b hb => by rw [List.mem_singleton] at hb; have := HS1.out; omega
  have hIV : ∀ X : World, (∃ v, X.heap[w.heap.size]? = some (.cells #[v] 37 (0, 0)) ∧ ∀ k, v.ownBlock = some k → k < X.heap.size) → Valid [w.heap.size] X := by
    rintro X ⟨v, hv, hl⟩ k ⟨b, hb, u, hu', ho⟩
    rw [List.mem_singleton] at hb
    subst hb
    rw [blk_cell hv 0] at hu'
    simp at hu'
    subst hu'
    exact hl k ho
  refine rangeF (w := W1) (gf := 41) (lb := #[.pointer (some ⟨nb, 0, none⟩)]) rfl (enters_of Try.func41 (by kernel_rfl) rfl)
    (each_stops w w.heap.size W1.heap.size rfl (by have := HS1.out; omega) [w.heap.size] hbx nb T W1 hT HB1.out HNB.out)
    (fun h k => Kp.trans h k) (fun W o o' h hc => Kp.record hbx (by have := HS1.out; omega) W o o' h hc) (Below.refl _ _) (fun _ => rfl)
    (fun pre X => (∃ v, X.heap[w.heap.size]? = some (.cells #[v] 37 (0, 0)) ∧ Kd.R k44 44 X w.heap.size (fun k => k ≠ w.heap.size) v (pre.map fun x => faultO x.1)) ∧ Below w.heap.size w X ∧ W1.heap.size + 2 ≤ X.heap.size)
    (fun c pre X => False)
    (fun s A B row hs hg hr => by
      obtain ⟨⟨v, h1, h2⟩, h3, h4⟩ := hs
      exact ⟨⟨v, own_cells s A B row h1 hg hr, own_R' h2 hg hr⟩, h3.grown hg h3.size (fun k hk => by have := (hr k hk).1; have := HS1.out; omega), Nat.le_trans h4 hg.size⟩)
    (fun c s A B row hs hg hr => hs)
    (fun pre X h => by
      obtain ⟨⟨v, h1, h2⟩, h3, h4⟩ := h
      exact ⟨hIV X ⟨v, h1, Kd.R_lt h2⟩, h4⟩)
    (fun Wq hbq hsq => ⟨⟨_, blk_below HOB.out hbq, Kd.R_nil _ _ _ _ _⟩, below_step HB1.out hbq, hsq⟩)
    ?round ?done ?stop
  case round =>
    rintro l' pre ⟨⟨⟨nk, nw, nwd, nA, nc, nkids⟩, f, d⟩, hTn⟩ X C hX ⟨⟨v, hov, hrow⟩, hlow, hsz⟩ hp hC
    obtain ⟨xx, hxx⟩ : ∃ xx : Told w, xx = ⟨(AT.node nk nw nwd nA nc nkids, f, d), hTn⟩ := ⟨_, rfl⟩
    obtain ⟨wv, hwv⟩ : ∃ wv, wv = wantOf nk nw := ⟨_, rfl⟩
    have HXX := Aside0.mk (show faultO xx.1 = ⟨⟨f, wrap64 (f + nwd)⟩, nk, wv⟩ by rw [hxx, hwv]; rfl)
    have HC := Aside0.mk hC
    have HP := Aside0.mk hp
    rw [← hxx] at HC HP
    obtain ⟨X2, hX2⟩ : ∃ X2, X2 = X.alloc (.cells #[.int .i64 f, .int .i64 (wrap64 (f + nwd)), .int .u8 nk, .int .u8 wv] 44) := ⟨_, rfl⟩
    have hbx2 : Below X.heap.size X X2 := by rw [hX2]; exact below_alloc (Below.refl _ _) _
    have h14 : X2.heap[X.heap.size]? = some (.cells #[.int .i64 f, .int .i64 (wrap64 (f + nwd)), .int .u8 nk, .int .u8 wv] 44 (0, 0)) := by rw [hX2]; exact heap_alloc_new X _
    have HBX := Aside0.mk hbx2
    have H14 := Aside0.mk h14
    have HX2 := Aside0.mk hX2
    have HHOV := Aside0.mk hov
    have HROW := Aside0.mk hrow
    have HLOW := Aside0.mk hlow
    have huf := Try.underlying44
    have HWV := Aside0.mk hwv
    clear hC hp hxx hbx2 h14 hX2 hov hrow hlow
    simp only [faultV, AT.k, AT.w, AT.wd, AT.A, AT.c, AT.kids]
    rw [← hwv]
    clear hwv
    gi_wp2
    rw [← HX2.out]
    refine HC.out _ _ ⟨HBX.out.size, fun q o _ ho _ => (HBX.out.block q (Array.getElem?_eq_some_iff.1 ho).1).trans ho⟩ (Kp.of_below hbx (HLOW.out.size) (by omega) HBX.out) ⟨⟨v, blk_below HHOV.out HBX.out, Kd.R_below HROW.out HBX.out⟩, below_step HLOW.out HBX.out, Nat.le_trans hsz HBX.out.size⟩ (fun Wb hKb hIb hcells hszb => ?_)
    obtain ⟨⟨vb, hovb, hrowb⟩, hlowb, hsb⟩ := hIb
    have hw14 := hcells _ _ _ _ H14.out
    obtain ⟨Av, cv, e⟩ := Kd.R_slice hrowb
    subst e
    obtain ⟨nn, hnn⟩ : ∃ nn, nn = (pre.map fun x => faultO x.1).length := ⟨_, rfl⟩
    rw [← hnn] at hrowb hovb
    obtain ⟨Y, hY⟩ : ∃ Y, Y = Wb.alloc (.cells #[.int .i64 f, .int .i64 (wrap64 (f + nwd)), .int .u8 nk, .int .u8 wv] 44) := ⟨_, rfl⟩
    have hbY : Below Wb.heap.size Wb Y := by rw [hY]; exact below_alloc (Below.refl _ _) _
    have hlen : pre.length < 2000000 := by
      have h1 := List.IsPrefix.length_le HP.out
      have h2 := List.length_filter_le (fun x : AT × Int × Int => faultB x.1.k) T.all
      simp only [List.length_map, List.length_append, List.length_singleton] at h1
      omega
    obtain ⟨g, cap, w1, hrun, hg, hgo, hbg, hnl, hR1⟩ := append_elem k44 44 37 hrowb (hlowb.size) (fun k hk => by have := HS1.out; omega) Try.underlying37 infoFault rfl (by decide) (by decide) (by rw [List.length_map]; omega) hbY ⟨⟨f, wrap64 (f + nwd)⟩, nk, wv⟩ [.int .i64 f, .int .i64 (wrap64 (f + nwd)), .int .u8 nk, .int .u8 wv] (by rw [hY]; exact heap_alloc_new _ _) (k44_mkM _ _ _ _) rfl (by intro u hu; simp at hu; rcases hu with rfl | rfl | rfl | rfl <;> rfl)
    rw [hY] at hrun
    rw [← HXX.out] at hR1
    have m0 := blk_cell hw14 0
    have m1 := blk_cell hw14 1
    have m2 := blk_cell hw14 2
    have m3 := blk_cell hw14 3
    have mo := blk_cell hovb 0
    have lo := blk_lt hovb
    have l14 := blk_lt hw14
    simp at m0 m1 m2 m3 mo
    have hovw : w1.heap[w.heap.size]? = some (.cells #[.slice Av nn cv] 37 (0, 0)) := (hg.block _ lo (fun e => hrowb.1 _ e.symm rfl)).trans hovb
    have mw := blk_cell hovw 0
    have fw := blk_frozen hovw 0
    have lw := blk_lt hovw
    simp at mw
    have HOVW := Aside0.mk hovw
    have HOVb := Aside0.mk hovb
    have HROWb := Aside0.mk hrowb
    have HLOWb := Aside0.mk hlowb
    have HKB := Aside0.mk hKb
    have HG := Aside0.mk hg
    have HGO := Aside0.mk hgo
    have HBG := Aside0.mk hbg
    have HR1 := Aside0.mk hR1
    have HSB := Aside0.mk hsb
    clear hovw hovb hrowb hlowb hKb hg hgo hbg hR1 hsb hw14 hcells hnl hlen hnn hY hbY hszb hsz
    gi_wp2_with (gi_at_builtin; refine wpListIn_append_run rfl _ _ _ rfl hrun ?_)
    obtain ⟨f1, f2, f3, f4, f5, f6⟩ := kp_append (cap := cap) (Nat.le_refl _) (show w.heap.size < W1.heap.size by have := HS1.out; omega) (by have := HSB.out; omega) HOVb.out HROWb.out HG.out HGO.out
    exact ⟨f1, HKB.out.trans f2, ⟨_, f4, by rw [List.map_append, List.map_singleton]; exact f6 HR1.out⟩, HLOWb.out.trans f3, Nat.le_trans HSB.out f5⟩
  case done =>
    rintro xs X hS ⟨⟨v, hov, hrow⟩, hlow, hsz⟩ hD
    have HD := Aside0.mk hD
    have HROW := Aside0.mk hrow
    have ko := blk_cell hov 0
    simp at ko
    clear hD hrow
    gi_wp2
    refine ⟨by simp, .inl ⟨_, _, rfl, run_takeDeferred HD.out, ?_⟩⟩
    refine ⟨_, results_tmp rfl _ _ _, _, rfl, ?_, hlow.trans (below_putObj X _ (by have := HS1.out; omega))⟩
    rw [← hS, List.map_map]
    exact Kd.R_mono (own_R' (B := 0) HROW.out (grownBy_putObj' X W1.heap.size (.deferred none)) (fun r hr => by cases hr; exact ⟨Nat.zero_le _, _, HD.out, rfl⟩)) (fun _ _ => trivial)
  case stop =>
    rintro c pre X hS hf hD
    exact hf.elim
set_option maxHeartbeats 1000000 in
theorem collect2_in (nb : Nat) (T : AT) (n : Nat) (w : World) (hT : AtT w T) (hnb : w.heap[nb]? = some (boxN T.k T.w T.wd T.A T.kids.length T.c)) (hN : T.all.length ≤ 2000000) :
    CallsIn Fence.wide n Try.prog 19 #[.func (.func 41) #[] #[.pointer (some ⟨nb, 0, none⟩)]] w fun e w' => ∃ v, e = .returned v ∧ Kd.R k44 44 w' w.heap.size (fun _ => True) v ((T.all.filter fun x => faultB x.1.k).map faultO) ∧ Below w.heap.size w w' := by
  have HC := Aside0.mk (collect_in nb T (n - 1) w hT hnb hN)
  clear hT hnb
  refine callsIn_of_wp Try.func19 rfl trivial ?_ rfl
  simp only [Try.ntmps19, List.size_toArray, List.length_cons, List.length_nil, Nat.reduceAdd, Nat.reduceSub, Array.replicate_succ, Array.replicate_zero, List.push_toArray, List.append_toArray, List.nil_append, List.cons_append]
  gi_wp2
  refine ⟨trivial, fun h => (by cases h), ?_⟩
  refine HC.out.mono ?_
  rintro e w' ⟨v, rfl, hr, hb⟩
  have HR := Aside0.mk hr
  have HB := Aside0.mk hb
  clear hr hb HC
  gi_wp2
  go_ret
  exact ⟨_, rfl, HR.out, HB.out⟩
set_option maxHeartbeats 1000000 in
theorem faultsOf_in (T : AT) (w : World) (hT : AtT w T) (hN : T.all.length ≤ 2000000) :
    Calls Try.prog 12 #[.agg #[.int .u8 T.k, .int .u8 T.w, .int .i64 T.wd, .slice T.A T.kids.length T.c]] w fun e w' => ∃ v, e = .returned v ∧ Kd.R k44 44 w' w.heap.size (fun _ => True) v ((T.all.filter fun x => faultB x.1.k).map faultO) ∧ Below w.heap.size w w' := by
  refine (callsIn_wide (n := 4)).1 ?_
  obtain ⟨W1, hW1⟩ : ∃ W1, W1 = w.alloc (boxN T.k T.w T.wd T.A T.kids.length T.c) := ⟨_, rfl⟩
  have hb1 : Below w.heap.size w W1 := by rw [hW1]; exact below_alloc (Below.refl _ _) _
  obtain ⟨W2, hW2⟩ : ∃ W2, W2 = W1.alloc (boxN T.k T.w T.wd T.A T.kids.length T.c) := ⟨_, rfl⟩
  have hb2 : Below W1.heap.size W1 W2 := by rw [hW2]; exact below_alloc (Below.refl _ _) _
  have hnb2 : W2.heap[W1.heap.size]? = some (boxN T.k T.w T.wd T.A T.kids.length T.c) := by rw [hW2]; exact heap_alloc_new W1 _
  have hu := Try.underlying25
  have HB2 := Aside0.mk (below_step hb1 hb2)
  have HC := Aside0.mk (collect2_in W1.heap.size T 3 W2 (AtT.below (below_step hb1 hb2) T hT) hnb2 hN)
  clear hb1 hb2 hnb2 hT
  refine callsIn_of_wp Try.func12 rfl trivial ?_ rfl
  simp only [Try.ntmps12, List.size_toArray, List.length_cons, List.length_nil, Nat.reduceAdd, Nat.reduceSub, Array.replicate_succ, Array.replicate_zero, List.push_toArray, List.append_toArray, List.nil_append, List.cons_append]
  gi_wp2
  refine ⟨trivial, ?_⟩
  change CallsIn Fence.wide 3 Try.prog 20 _ (w.alloc (boxN T.k T.w T.wd T.A T.kids.length T.c)) _
  rw [← hW1]
  refine (each_in _ _ _ _ _ _ _ _).mono ?_
  rintro e w' ⟨rfl, rfl⟩
  rw [← hW2]
  clear hW1 hW2
  gi_wp2
  refine ⟨trivial, ?_⟩
  refine HC.out.mono ?_
  rintro e w' ⟨v, rfl, hr, hb⟩
  have HR := Aside0.mk hr
  have HB := Aside0.mk hb
  clear hr hb HC
  gi_wp2
  go_ret
  exact ⟨_, rfl, Kd.R_lower HR.out HB2.out.size, below_step HB2.out HB.out⟩
end Go.Proofs.Ytceddikbmbadlaa.H
