/- tree.Leaves: the leaves of a tree that may be, each without kids. -/
import Derived.Test.YtghbfjmmjfklfaaQHTreeWalk
import Derived.Test.YtghbfjmmjfklfaaQHNodeAppend
import Derived.Test.YtghbfjmmjfklfaaQHRound
set_option linter.unusedVariables false
set_option linter.unusedSimpArgs false
namespace Go.Proofs.Ytghbfjmmjfklfaa.H
open Go.RowKit Go.Shelf Go.Proofs.YtghbfjmmjfklfaaW.PrintWords Go.Proofs.YtghbfjmmjfklfaaW.PrintLast Go.Proofs.YtghbfjmmjfklfaaW.PrintMore
attribute [local go_sem] Oper.semAt_some
theorem wp_append_run {P : Program} {w w' : World} {o : Oper} {a : Act} {K : Act → World → Prop} {Q : Exit → Act → World → Prop} {v' : Value} {b : Bool} {R : Prop} (hb : b = true) (s x : Operand) (t : TypeId)
    (hop : o.op = Op.call { callee := Callee.builtin Builtin.append, args := #[s, x], argTypes := #[t, t] })
    (hrun : (Builtin.append_ #[t, t] o.type #[a.eval s, a.eval x]).run P w = .ok v' w') (hK : K (a.put o.dst v') w') : if b = true then Oper.wp P o a w K Q else R := by
  rw [if_pos hb]
  unfold Oper.wp execOp
  simp only [hop, resolve, invoke, builtin, Sem.run_bind, Sem.run_pure, Result.andThen_ok, List.map_toArray, List.map_cons, List.map_nil, hrun]
  exact hK
def leavesA (xs : List (AT × Int × Int)) : List S27 := (xs.filter fun x => decide (x.1.k ≤ 50)).map fun x => ⟨x.1.k, x.1.w, x.1.wd, []⟩
theorem leavesA_snoc (xs : List (AT × Int × Int)) (x : AT × Int × Int) : leavesA (xs ++ [x]) = leavesA xs ++ (if x.1.k ≤ 50 then [⟨x.1.k, x.1.w, x.1.wd, []⟩] else []) := by
  unfold leavesA
  rw [List.filter_append, List.map_append]
  congr 1
  by_cases h : x.1.k ≤ 50 <;> simp [h]
theorem own_R {α : Type} {d : Kd α} {e base B : Nat} {ok : Nat → Prop} {v : Value} {xs : List α} {X X' : World} {row : Option Nat} (h : d.R e X base ok v xs) (hg : X.grownBy X' row) (hr : ∀ r, row = some r → B ≤ r ∧ ∃ o : Obj, X.heap[r]? = some o ∧ o.isCells = false) : d.R e X' base ok v xs :=
  Kd.R_mono (Kd.R_step (Kd.R_bound h) (fun k hk hlt => hg.block k hlt (fun he => by
    obtain ⟨_, _, _, q, _, cells, hc⟩ := hk
    obtain ⟨_, o, ho, hn⟩ := hr k he.symm
    rw [hc] at ho
    cases ho
    cases hn))) (fun _ hk => hk.1)
theorem leavesA_length (xs : List (AT × Int × Int)) : (leavesA xs).length ≤ xs.length := by
  unfold leavesA
  rw [List.length_map]
  exact List.length_filter_le _ _
set_option maxHeartbeats 2000000 in
set_option maxRecDepth 100000 in
theorem leaves_in (T : AT) (w : World) (hT : AtT w T) (hN : T.all.length ≤ 2000000) :
    Calls Try.prog 52 #[.agg #[.int .u8 T.k, .int .u8 T.w, .int .i64 T.wd, .slice T.A T.kids.length T.c]] w fun e w' => ∃ v, e = .returned v ∧ Kd.R k27 27 w' w.heap.size (fun _ => True) v (leavesA T.all) ∧ Below w.heap.size w w' := by
  refine (callsIn_wide (n := 3)).1 ?_
  obtain ⟨W1, hW1⟩ : ∃ W1, W1 = (w.alloc (boxN T.k T.w T.wd T.A T.kids.length T.c)).alloc (.cells #[.slice none 0 0] 25) := ⟨_, rfl⟩
  have hs1 : W1.heap.size = w.heap.size + 2 := by rw [hW1]; simp
  have hb1 : Below w.heap.size w W1 := by rw [hW1]; exact Below.alloc (below_alloc (Below.refl _ _) _) (by simp) _
  have hob : W1.heap[w.heap.size + 1]? = some (.cells #[.slice none 0 0] 25 (0, 0)) := by
    rw [hW1]
    have := heap_alloc_new (w.alloc (boxN T.k T.w T.wd T.A T.kids.length T.c)) (.cells #[.slice none 0 0] 25)
    simpa using this
  obtain ⟨W2, hW2⟩ : ∃ W2, W2 = W1.alloc (boxN T.k T.w T.wd T.A T.kids.length T.c) := ⟨_, rfl⟩
  have hb2 : Below W1.heap.size W1 W2 := by rw [hW2]; exact below_alloc (Below.refl _ _) _
  have hnb2 : W2.heap[W1.heap.size]? = some (boxN T.k T.w T.wd T.A T.kids.length T.c) := by rw [hW2]; exact heap_alloc_new W1 _
  have hs2 : W2.heap.size = w.heap.size + 3 := by rw [hW2, World.size_alloc, hs1]
  have hu := Try.underlying27
  have HS1 := Aside0.mk hs1
  have HS2 := Aside0.mk hs2
  have HB2 := Aside0.mk (below_step hb1 hb2)
  have HNB := Aside0.mk hnb2
  have HOB := Aside0.mk (blk_below hob hb2)
  clear hs1 hs2 hnb2 hob hb1 hb2
  refine callsIn_of_wp_marks Try.func52 rfl trivial ?_ rfl
  simp only [Try.ntmps52, List.size_toArray, List.length_cons, List.length_nil, Nat.reduceAdd, Nat.reduceSub, Array.replicate_succ, Array.replicate_zero, List.push_toArray, List.append_toArray, List.nil_append, List.cons_append]
  gi_wp2
  refine ⟨trivial, ?_⟩
  change CallsIn Fence.wide 2 Try.prog 67 _ ((w.alloc (boxN T.k T.w T.wd T.A T.kids.length T.c)).alloc (.cells #[.slice none 0 0] 25)) _
  rw [← hW1]
  refine (all_in _ _ _ _ _ _ _ _).mono ?_
  rintro e w' ⟨rfl, rfl⟩
  rw [← hW2]
  clear hW1 hW2
  gi_wp2
  have hbx : ∀ b ∈ [w.heap.size + 1], b < W2.heap.size := fun b hb => by rw [List.mem_singleton] at hb; have := HS2.out; omega
  have hIV : ∀ X : World, (∃ v, X.heap[w.heap.size + 1]? = some (.cells #[v] 25 (0, 0)) ∧ ∀ k, v.ownBlock = some k → k < X.heap.size) → Valid [w.heap.size + 1] X := by
    rintro X ⟨v, hv, hl⟩ k ⟨b, hb, u, hu', ho⟩
    rw [List.mem_singleton] at hb
    subst hb
    rw [blk_cell hv 0] at hu'
    simp at hu'
    subst hu'
    exact hl k ho
  refine rangeO (w := W2) (gf := 74) (lb := #[.pointer (some ⟨W1.heap.size, 0, none⟩)]) rfl (enters_of Try.func74 (by kernel_rfl) rfl)
    (all_stops w w.heap.size W2.heap.size rfl (by have := HS2.out; omega) [w.heap.size + 1] hbx W1.heap.size T W2 hT HB2.out (Nat.le_refl _) HNB.out)
    (fun h k => Kp.trans h k) (fun W o o' h hc => Kp.record hbx (by have := HS2.out; omega) W o o' h hc) (Below.refl _ _) (fun _ => rfl)
    (fun pre X => (∃ v, X.heap[w.heap.size + 1]? = some (.cells #[v] 25 (0, 0)) ∧ Kd.R k27 27 X w.heap.size (fun k => k ≠ w.heap.size + 1) v (leavesA (pre.map (·.1)))) ∧ Below w.heap.size w X ∧ W2.heap.size ≤ X.heap.size)
    (fun c pre X => False)
    (fun s A B row hs hg hr => by
      obtain ⟨⟨v, h1, h2⟩, h3, h4⟩ := hs
      exact ⟨⟨v, own_cells s A B row h1 hg hr, own_R h2 hg hr⟩, h3.grown hg h3.size (fun k hk => by have := (hr k hk).1; have := HS2.out; omega), Nat.le_trans h4 hg.size⟩)
    (fun c s A B row hs hg hr => hs)
    (fun pre X h => by
      obtain ⟨⟨v, h1, h2⟩, h3, h4⟩ := h
      exact hIV X ⟨v, h1, Kd.R_lt h2⟩)
    (fun Wq hbq _ => ⟨⟨_, blk_below HOB.out hbq, Kd.R_nil _ _ _ _ _⟩, below_step HB2.out hbq, hbq.size⟩)
    (fun x a' Ws X => ∃ b, Ws.heap.size ≤ b ∧ W2.heap.size ≤ b ∧ X.heap[b]? = some (.cells #[.int .u8 x.1.1.k, .int .u8 x.1.1.w, .int .i64 x.1.1.wd, .slice x.1.1.A x.1.1.kids.length x.1.1.c, .int .i64 x.1.2.1, .int .i64 (wrap64 (x.1.2.1 + x.1.1.wd)), .int .i64 x.1.2.2] 119 (0, 0)) ∧
      a' = { tmps := #[.agg #[.int .u8 T.k, .int .u8 T.w, .int .i64 T.wd, .slice T.A T.kids.length T.c], .pointer (some ⟨w.heap.size, 0, none⟩), .slice none 0 0, .pointer (some ⟨w.heap.size + 1, 0, none⟩), .pointer (some ⟨b, 0, none⟩), .agg #[.int .u8 T.k, .int .u8 T.w, .int .i64 T.wd, .slice T.A T.kids.length T.c], .func (.func 74) #[] #[.pointer (some ⟨W1.heap.size, 0, none⟩)], seenV x.1, undef, undef, undef, undef, undef, undef, undef, undef, undef, undef, undef, undef, undef, undef], defers := [] })
    (fun x a' Ws s A B row hs hg hr => by
      obtain ⟨b, h0, h1, h2, h3⟩ := hs
      exact ⟨b, h0, h1, own_cells () A B row h2 hg hr, h3⟩) ?assign ?body ?done ?stop
  case assign =>
    intro l' pre x X C hlt' hi hC
    simp only [seenV]
    have hup : Below X.heap.size X (X.alloc (.cells #[.int .u8 x.1.1.k, .int .u8 x.1.1.w, .int .i64 x.1.1.wd, .slice x.1.1.A x.1.1.kids.length x.1.1.c, .int .i64 x.1.2.1, .int .i64 (wrap64 (x.1.2.1 + x.1.1.wd)), .int .i64 x.1.2.2] 119)) := below_alloc (Below.refl _ _) _
    have HUP := Aside0.mk hup
    have HI := Aside0.mk hi
    have HC := Aside0.mk hC
    clear hup hi hC
    gi_wp2
    obtain ⟨⟨v, h1, h2⟩, h3, h4⟩ := HI.out
    refine HC.out _ _ ⟨HUP.out.size, fun k o _ ho _ => (HUP.out.block k (Array.getElem?_eq_some_iff.1 ho).1).trans ho⟩ (Kp.of_below hbx h3.size (by omega) HUP.out) ⟨⟨v, blk_below h1 HUP.out, Kd.R_below h2 HUP.out⟩, below_step h3 HUP.out, Nat.le_trans h4 HUP.out.size⟩ ⟨X.heap.size, Nat.le_refl _, h4, heap_alloc_new X _, rfl⟩
  case body =>
    rintro l' pre x a' Xs X hsX _ ⟨⟨v, hov, hrow⟩, hlow, hsz⟩ hKX ⟨b, hbs, hb, hblk, rfl⟩ hpre
    have hlen : pre.length < T.all.length := by
      have := List.IsPrefix.length_le hpre
      simp only [List.length_map, List.length_append, List.length_singleton] at this
      omega
    clear hpre
    have q0 := blk_cell hblk 0
    have q1 := blk_cell hblk 1
    have q2 := blk_cell hblk 2
    have q3 := blk_cell hblk 3
    simp at q0 q1 q2 q3
    have hus := Try.underlying119
    simp only [seenV]
    by_cases c1 : x.1.1.k ≤ 50
    · have d1 : decide (x.1.1.k ≤ 50) = true := decide_eq_true c1
      have hf3 := blk_frozen hblk 3
      have HROW := Aside0.mk hrow
      have HBLK := Aside0.mk hblk
      have HOV := Aside0.mk hov
      clear hrow hblk hov
      have ko := blk_cell HOV.out 0
      have kof := blk_frozen HOV.out 0
      simp at ko
      obtain ⟨Av, cv, rfl⟩ := Kd.R_slice HROW.out
      obtain ⟨X1, hX1⟩ : ∃ X1, X1 = X.setCell ⟨b, 3, none⟩ (.slice none 0 0) := ⟨_, rfl⟩
      obtain ⟨L, hL⟩ : ∃ L, L = leavesA (pre.map (·.1)) := ⟨_, rfl⟩
      rw [← hL] at HROW ko HOV
      obtain ⟨n, hn⟩ : ∃ n, n = L.length := ⟨_, rfl⟩
      rw [← hn] at HROW ko HOV
      have hln : L.length ≤ 2000000 := by
        have := leavesA_length (pre.map (·.1))
        rw [List.length_map] at this
        rw [hL]
        omega
      have hneb : w.heap.size + 1 ≠ b := by have := HS2.out; omega
      have hblk1 : X1.heap[b]? = some (.cells #[.int .u8 x.1.1.k, .int .u8 x.1.1.w, .int .i64 x.1.1.wd, .slice none 0 0, .int .i64 x.1.2.1, .int .i64 (wrap64 (x.1.2.1 + x.1.1.wd)), .int .i64 x.1.2.2] 119 (0, 0)) := by rw [hX1]; exact blk_set HBLK.out 3 _
      have hov1 : X1.heap[w.heap.size + 1]? = some (.cells #[.slice Av n cv] 25 (0, 0)) := by rw [hX1]; exact blk_far HOV.out hneb _
      have hrow1 : Kd.R k27 27 X1 w.heap.size (fun k => k ≠ w.heap.size + 1) (.slice Av n cv) L := by rw [hX1]; exact Kd.R_set HROW.out HBLK.out (fun q hq => by have h : q ∈ [27, 27] := hq; simp at h; omega) 3 _
      have hs1 : X1.heap.size = X.heap.size := by rw [hX1]; simp
      have hlow1 : Below w.heap.size w X1 := by rw [hX1]; exact hlow.setCell (show w.heap.size ≤ b by have := HS2.out; omega) _
      have hoth1 : ∀ q, q ≠ b → X1.heap[q]? = X.heap[q]? := fun q hq => by rw [hX1]; exact Below.heap_setCell _ _ _ _ hq
      obtain ⟨g, cap, w1, hrun, hgX, hgo, hbg, ⟨cur, hcur, hcsz⟩, z0, z1, z2, z3, hfin⟩ := append_node hrow1 hlow1.size (fun k hk => by have := HS2.out; omega) hln x.1.1.k x.1.1.w x.1.1.wd
      have hrun2 : (Builtin.append_ #[25, 25] 25 #[.slice Av n cv, .slice (some ⟨X1.heap.size, 0, none⟩) 1 1]).run Try.prog ((X1.alloc (.cells #[.int .u8 0, .int .u8 0, .int .i64 0, .slice none 0 0] 27)).drew) = .ok (.slice (some ⟨g, 0, none⟩) (n + 1) cap) w1 := hrun
      clear hrun
      have hgne : g ≠ w.heap.size + 1 := by
        rcases hgo with h | h
        · exact hrow1.1 g h
        · have := HS2.out; omega
      have hov2 : w1.heap[w.heap.size + 1]? = some (.cells #[.slice Av n cv] 25 (0, 0)) := (hgX.block _ (blk_lt hov1) (fun e => hrow1.1 _ e.symm rfl)).trans hov1
      have HX1 := Aside0.mk hX1
      have HLL := Aside0.mk hL
      have HNN := Aside0.mk hn
      have HSS := Aside0.mk hs1
      clear hX1 hL hn hs1
      gi_wp2
      rw [← HX1.out]
      have r0 := blk_cell hblk1 0
      have r1 := blk_cell hblk1 1
      have r2 := blk_cell hblk1 2
      have r3 := blk_cell hblk1 3
      have r4 := blk_cell hov1 0
      have r4f := blk_frozen hov1 0
      have rb := blk_lt hblk1
      have ro := blk_lt hov1
      have hwo := blk_cell hov2 0
      simp at r0 r1 r2 r3 r4 hwo
      have hwf : ∀ j, w1.frozen? ⟨g, j, none⟩ = false := fun j => blk_frozen hcur j
      have hwof := blk_frozen hov2 0
      have hlq : (n : Int) < (n : Int) + 1 := by omega
      have hmix : Try.prog.follows .mixedOrders = true := by kernel_rfl
      obtain ⟨cur', hcur'⟩ : ∃ cur', cur' = ((((cur.setIfInBounds (n * 4) (.int .u8 x.1.1.k)).setIfInBounds (n * 4 + 1) (.int .u8 x.1.1.w)).setIfInBounds (n * 4 + 2) (.int .i64 x.1.1.wd)).setIfInBounds (n * 4 + 3) (.slice none 0 0)) := ⟨_, rfl⟩
      have hset : (w1.setCells g (n * 4) [.int .u8 x.1.1.k, .int .u8 x.1.1.w, .int .i64 x.1.1.wd, .slice none 0 0]).heap[g]? = some (.cells cur' 27 (0, 0)) := by
        rw [hcur']
        exact blk_set (blk_set (blk_set (blk_set hcur _ _) _ _) _ _) _ _
      have e1 : leavesA ((pre ++ [x]).map (·.1)) = L ++ [⟨x.1.1.k, x.1.1.w, x.1.1.wd, []⟩] := by rw [List.map_append, List.map_singleton, leavesA_snoc, if_pos c1, HLL.out]
      have fin : ∀ W' : World, W'.os = w1.os → W'.tape = w1.tape → W'.output = w1.output → W'.heap.size = w1.heap.size → (∀ q, q ≠ g → q ≠ w.heap.size + 1 → W'.heap[q]? = w1.heap[q]?) → W'.heap[g]? = some (.cells cur' 27 (0, 0)) → W'.heap[w.heap.size + 1]? = some (.cells #[.slice (some ⟨g, 0, none⟩) (n + 1) cap] 25 (0, 0)) →
          KeepsFrom W2.heap.size X W' ∧ Kp w.heap.size W2.heap.size [w.heap.size + 1] Xs W' ∧ (∃ v, W'.heap[w.heap.size + 1]? = some (.cells #[v] 25 (0, 0)) ∧ Kd.R k27 27 W' w.heap.size (fun k => k ≠ w.heap.size + 1) v (leavesA ((pre ++ [x]).map (·.1)))) ∧ Below w.heap.size w W' ∧ W2.heap.size ≤ W'.heap.size := by
        intro W' e1' e2' e3' hsz' hoth hg' ho'
        have hs2 := HS2.out
        have hgsz := hgX.size
        have hss := HSS.out
        have hown : ∀ k, (Value.slice Av n cv).ownBlock = some k → ∃ cells, X.heap[k]? = some (.cells cells 27 (0, 0)) := fun k hk => by
          obtain ⟨_, _, _, q, hq, cells, hc⟩ := (Kd.R_bound HROW.out).1 k hk
          have h : q ∈ [27, 27] := hq
          simp at h
          subst h
          exact ⟨cells, hc⟩
        have hgen : ∀ k o, X.heap[k]? = some o → k ≠ b → (Value.slice Av n cv).ownBlock ≠ some k → k ≠ w.heap.size + 1 → W'.heap[k]? = some o := fun k o hk hkb hko hkv => by
          have hlt : k < X.heap.size := (Array.getElem?_eq_some_iff.1 hk).1
          have hkg : k ≠ g := fun e => by
            subst e
            rcases hgo with h | h
            · exact hko h
            · omega
          rw [hoth k hkg hkv, hgX.block k (by omega) (fun e => hko e.symm), hoth1 k hkb, hk]
        have hnc : ∀ k o, W2.heap.size ≤ k → o.isCells = false → X.heap[k]? = some o → W'.heap[k]? = some o := fun k o hk hc ho => by
          refine hgen k o ho (fun e => ?_) (fun e => ?_) (by omega)
          · subst e
            rw [HBLK.out] at ho
            cases ho
            cases hc
          · obtain ⟨cells, h⟩ := hown k e
            rw [h] at ho
            cases ho
            cases hc
        have hfrX : ∀ k, (Value.slice Av n cv).ownBlock = some k → fr [w.heap.size + 1] X k := fun k hk => ⟨_, List.mem_singleton.2 rfl, _, ko, hk⟩
        have hbX : Below w.heap.size X W' := by
          have h1 : Below w.heap.size X X1 := by rw [HX1.out]; exact (Below.refl _ _).setCell (show w.heap.size ≤ b by omega) _
          have h2 : Below w.heap.size X w1 := h1.grown hgX (by have := hlow.size; omega) (fun k hk => ((Kd.R_bound hrow1).1 k hk).2.1)
          refine ⟨e1'.trans h2.os, e2'.trans h2.tape, e3'.trans h2.output, by have := h2.size; omega, fun k hk => ?_⟩
          rw [hoth k (by omega) (by omega)]
          exact h2.block k hk
        refine ⟨⟨by omega, fun k o hk ho hc => hnc k o hk hc ho⟩, ⟨hKX.low.trans hbX, fun k cs t fz hk hnf hcs => ?_, fun k hf => ?_, fun k o hk hc ho => hnc k o (by omega) hc (hKX.rest k o hk hc ho)⟩, ⟨_, ho', ?_⟩, hlow.trans hbX, by omega⟩
        · have hlt := blk_lt hcs
          have h1 := hKX.high k cs t fz hk hnf hcs
          exact hgen k _ h1 (by omega) (fun e => hKX.notfr hlt hnf (hfrX k e)) (by omega)
        · obtain ⟨q, hq, u, hu', ho⟩ := hf
          rw [List.mem_singleton] at hq
          subst hq
          rw [blk_cell ho' 0] at hu'
          simp at hu'
          subst hu'
          simp only [Value.ownBlock, Option.some.injEq] at ho
          subst ho
          rcases hgo with h | h
          · exact hKX.own g (hfrX g h)
          · exact .inr (by have := hKX.low.size; omega)
        · rw [e1]
          refine Kd.R_step hfin (fun k hk hlt => ?_)
          by_cases e : k = g
          · rw [e, hg', hset]
          · rw [hoth k e hk]
            exact ((((Below.heap_setCell _ _ _ _ e).trans (Below.heap_setCell _ _ _ _ e)).trans (Below.heap_setCell _ _ _ _ e)).trans (Below.heap_setCell _ _ _ _ e)).symm
      have FIN := Aside0.mk fin
      have HSET := Aside0.mk (show ((((w1.setCell ⟨g, n * 4, none⟩ (.int .u8 x.1.1.k)).setCell ⟨g, n * 4 + 1, none⟩ (.int .u8 x.1.1.w)).setCell ⟨g, n * 4 + 2, none⟩ (.int .i64 x.1.1.wd)).setCell ⟨g, n * 4 + 3, none⟩ (.slice none 0 0)).heap[g]? = some (.cells cur' 27 (0, 0)) by
        rw [hcur']
        exact blk_set (blk_set (blk_set (blk_set hcur _ _) _ _) _ _) _ _)
      have HCUR := Aside0.mk hcur
      have HOV2 := Aside0.mk hov2
      clear fin hcur hset e1 hfin hgX hov1 hov2 hblk1 HS1 HS2 HB2 HNB HOB hIV hbx HROW HOV HBLK HX1 HLL HNN HSS hrow1 hlow1 hoth1 hgo hcsz hbg hlow hsz hKX hln hneb
      refine round_need [0, 1, 2, 3, 4] (fun W' => W'.cell? ⟨b, 0, none⟩ = some (.int .u8 x.1.1.k) ∧ W'.cell? ⟨b, 1, none⟩ = some (.int .u8 x.1.1.w) ∧ W'.cell? ⟨b, 2, none⟩ = some (.int .i64 x.1.1.wd) ∧ W'.cell? ⟨b, 3, none⟩ = some (.slice none 0 0) ∧ W'.cell? ⟨w.heap.size + 1, 0, none⟩ = some (.slice Av n cv)) hmix (by kernel_rfl) (fun ⟨_, _, h⟩ => h) ?_
      have hS := Aside0.mk (And.intro r0 (And.intro r1 (And.intro r2 (And.intro r3 r4))))
      clear q0 q1 q2 q3 ko kof hf3 r0 r1 r2 r3 r4
      refine wpAnyN_take (i := 0) (v := ?v0) rfl (by kernel_rfl) (by kernel_rfl) (by kernel_rfl) (by kernel_rfl) (fun _ _ _ h => h) (.inl ⟨by rfl, ?y0⟩) hS.out ?_
      case y0 => (intro W' hW'; obtain ⟨s0, s1, s2, s3, s4⟩ := hW'; go_simp; try rfl)
      simp only [Act.put, List.setIfInBounds_toArray, List.set_cons_zero, List.set_cons_succ]
      refine wpAnyN_take (i := 1) (v := ?v1) rfl (by kernel_rfl) (by kernel_rfl) (by kernel_rfl) (by kernel_rfl) (fun _ _ _ h => h) (.inl ⟨by rfl, ?y1⟩) hS.out ?_
      case y1 => (intro W' hW'; obtain ⟨s0, s1, s2, s3, s4⟩ := hW'; go_simp; try rfl)
      simp only [Act.put, List.setIfInBounds_toArray, List.set_cons_zero, List.set_cons_succ]
      refine wpAnyN_take (i := 2) (v := ?v2) rfl (by kernel_rfl) (by kernel_rfl) (by kernel_rfl) (by kernel_rfl) (fun _ _ _ h => h) (.inl ⟨by rfl, ?y2⟩) hS.out ?_
      case y2 => (intro W' hW'; obtain ⟨s0, s1, s2, s3, s4⟩ := hW'; go_simp; try rfl)
      simp only [Act.put, List.setIfInBounds_toArray, List.set_cons_zero, List.set_cons_succ]
      refine wpAnyN_take (i := 3) (v := ?v3) rfl (by kernel_rfl) (by kernel_rfl) (by kernel_rfl) (by kernel_rfl) (fun _ _ _ h => h) (.inl ⟨by rfl, ?y3⟩) hS.out ?_
      case y3 => (intro W' hW'; obtain ⟨s0, s1, s2, s3, s4⟩ := hW'; go_simp; try rfl)
      simp only [Act.put, List.setIfInBounds_toArray, List.set_cons_zero, List.set_cons_succ]
      refine wpAnyN_one (i := 4) rfl (by kernel_rfl) (fun K hK => ?_)
      go_simp
      refine hK.out _ _ (fun _ => ?_) (fun _ => ?_)
      · obtain ⟨r0, r1, r2, r3, r4⟩ := hS.out
        exact ⟨(World.cell?_alloc_lt _ _ _ rb).trans r0, (World.cell?_alloc_lt _ _ _ rb).trans r1, (World.cell?_alloc_lt _ _ _ rb).trans r2, (World.cell?_alloc_lt _ _ _ rb).trans r3, (World.cell?_alloc_lt _ _ _ ro).trans r4⟩
      clear hK K
      refine wpAnyN_one (i := 5) rfl (by kernel_rfl) (fun K hK => ?_)
      refine wp_append_run (by kernel_rfl) _ _ _ rfl hrun2 ?_
      refine hK.out _ _ (fun h => (by cases h)) (fun _ => ?_)
      simp only [Act.put, List.setIfInBounds_toArray, List.set_cons_zero, List.set_cons_succ]
      clear hK K
      refine wpAnyN_two (i := 6) (j := 8) rfl rfl (by kernel_rfl) (fun K hK => ?_) (fun K hK => ?_)
      · go_simp
        refine hK.out _ _ (fun h => (by cases h)) (fun _ => ?_)
        clear hK K
        refine wpAnyN_two (i := 7) (j := 8) rfl rfl (by kernel_rfl) (fun K hK => ?_) (fun K hK => ?_)
        · go_simp
          refine hK.out _ _ (fun h => (by cases h)) (fun _ => ?_)
          clear hK K
          refine wpAnyN_one (i := 8) rfl (by kernel_rfl) (fun K hK => ?_)
          go_simp
          refine hK.out _ _ (fun h => (by cases h)) (fun _ => ?_)
          clear hK K
          refine wpAnyN_done (by kernel_rfl) ?_ _
          refine FIN.out _ (by simp [World.setCell]) (by simp [World.setCell]) (by simp [World.setCell]) (by simp) (fun q h1 h2 => by simp [Below.heap_setCell, h1, h2]) ?_ ?_
          · exact blk_far HSET.out hgne _
          · exact blk_set (blk_far (blk_far (blk_far (blk_far HOV2.out hgne.symm _) hgne.symm _) hgne.symm _) hgne.symm _) 0 _
        · go_simp
          refine hK.out _ _ (fun h => (by cases h)) (fun _ => ?_)
          clear hK K
          refine wpAnyN_one (i := 7) rfl (by kernel_rfl) (fun K hK => ?_)
          go_simp
          refine hK.out _ _ (fun h => (by cases h)) (fun _ => ?_)
          clear hK K
          refine wpAnyN_done (by kernel_rfl) ?_ _
          refine FIN.out _ (by simp [World.setCell]) (by simp [World.setCell]) (by simp [World.setCell]) (by simp) (fun q h1 h2 => by simp [Below.heap_setCell, h1, h2]) ?_ ?_
          · (rw [hcur']; exact blk_set (blk_set (blk_set (blk_set (blk_far HCUR.out hgne _) _ _) _ _) _ _) _ _)
          · exact blk_far (blk_far (blk_far (blk_far (blk_set HOV2.out 0 _) hgne.symm _) hgne.symm _) hgne.symm _) hgne.symm _
      · go_simp
        refine hK.out _ _ (fun h => (by cases h)) (fun _ => ?_)
        clear hK K
        refine wpAnyN_one (i := 6) rfl (by kernel_rfl) (fun K hK => ?_)
        go_simp
        refine hK.out _ _ (fun h => (by cases h)) (fun _ => ?_)
        clear hK K
        refine wpAnyN_one (i := 7) rfl (by kernel_rfl) (fun K hK => ?_)
        go_simp
        refine hK.out _ _ (fun h => (by cases h)) (fun _ => ?_)
        clear hK K
        refine wpAnyN_done (by kernel_rfl) ?_ _
        refine FIN.out _ (by simp [World.setCell]) (by simp [World.setCell]) (by simp [World.setCell]) (by simp) (fun q h1 h2 => by simp [Below.heap_setCell, h1, h2]) ?_ ?_
        · (rw [hcur']; exact blk_set (blk_set (blk_set (blk_set (blk_far HCUR.out hgne _) _ _) _ _) _ _) _ _)
        · exact blk_far (blk_far (blk_far (blk_far (blk_set HOV2.out 0 _) hgne.symm _) hgne.symm _) hgne.symm _) hgne.symm _
    · have d1 : decide (x.1.1.k ≤ 50) = false := decide_eq_false c1
      have HROW := Aside0.mk hrow
      have HOV := Aside0.mk hov
      clear hrow hov hblk
      gi_wp2
      have e : leavesA ((pre ++ [x]).map (·.1)) = leavesA (pre.map (·.1)) := by rw [List.map_append, List.map_singleton, leavesA_snoc, if_neg (by omega), List.append_nil]
      exact ⟨KeepsFrom.refl _ _, hKX, ⟨v, HOV.out, by rw [e]; exact HROW.out⟩, hlow, hsz⟩
  case done =>
    rintro xs X hS ⟨⟨v, hov, hrow⟩, hlow, hsz⟩ hD
    have HD := Aside0.mk hD
    have HROW := Aside0.mk hrow
    have ko := blk_cell hov 0
    simp at ko
    clear hD hrow
    gi_wp2
    refine ⟨by simp, .inl ⟨_, _, rfl, run_takeDeferred HD.out, ?_⟩⟩
    refine ⟨_, results_tmp rfl _ _ _, _, rfl, ?_, hlow.trans (below_putObj X _ (by have := HS2.out; omega))⟩
    rw [← hS]
    exact Kd.R_mono (own_R (B := 0) HROW.out (grownBy_putObj' X W2.heap.size (.deferred none)) (fun r hr => by cases hr; exact ⟨Nat.zero_le _, _, HD.out, rfl⟩)) (fun _ _ => trivial)
  case stop =>
    rintro c pre X hS hf hD
    exact hf.elim
end Go.Proofs.Ytghbfjmmjfklfaa.H
