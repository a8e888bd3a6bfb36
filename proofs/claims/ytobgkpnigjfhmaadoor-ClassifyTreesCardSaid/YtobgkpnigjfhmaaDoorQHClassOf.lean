/- classify.Of: the marks of a tree that may be. -/
import Derived.Test.YtobgkpnigjfhmaaDoorQHClassNames
import Derived.Test.YtobgkpnigjfhmaaDoorQHTreeWalk
import Derived.Test.YtobgkpnigjfhmaaDoorQHAppendRound
import Derived.Test.YtobgkpnigjfhmaaDoorQHErase
import Derived.Lib.LaidTab
set_option linter.unusedVariables false
set_option linter.unusedSimpArgs false
namespace Go.Proofs.YtobgkpnigjfhmaaDoor.H
open Go.RowKit Go.Shelf Go.Proofs.YtobgkpnigjfhmaaDoorW.PrintWords Go.Proofs.YtobgkpnigjfhmaaDoorW.PrintLast Go.Proofs.YtobgkpnigjfhmaaDoorW.PrintMore
attribute [local go_sem] Oper.semAt_some
theorem wpListIn_append_run {F : Fence} {n : Nat} {P : Program} {w w' : World} {ops : Array Oper} {rest : List Oper} {o : Oper} {a : Act} {Q : Exit → Act → World → Prop} {v' : Value}
    (hg : o.guard = none) (s x : Operand) (t : TypeId) (hop : o.op = Op.call { callee := Callee.builtin Builtin.append, args := #[s, x], argTypes := #[t, t] })
    (hrun : (Builtin.append_ #[t, t] o.type #[a.eval s, a.eval x]).run P w = .ok v' w') (hK : wpListIn F n P ops Q rest (a.put o.dst v') w') : wpListIn F n P ops Q (o :: rest) a w := by
  refine wpListIn_plain hg fun K hK' => ?_
  unfold Oper.wpIn
  refine ⟨?_, ?_⟩
  · simp [Oper.about, hop, resolve, Target.leads, Sem.run_pure]
  · rw [Oper.semAt_plain F _ _ (by rw [hop]; intro c hc'; cases hc')]
    simp [execOp, hop, resolve, invoke, builtin, hrun, Result.andThen]
    exact hK' _ _ hK
theorem own_R' {α : Type} {d : Kd α} {e base B : Nat} {ok : Nat → Prop} {v : Value} {xs : List α} {X X' : World} {row : Option Nat} (h : d.R e X base ok v xs) (hg : X.grownBy X' row) (hr : ∀ r, row = some r → B ≤ r ∧ ∃ o : Obj, X.heap[r]? = some o ∧ o.isCells = false) : d.R e X' base ok v xs :=
  Kd.R_mono (Kd.R_step (Kd.R_bound h) (fun k hk hlt => hg.block k hlt (fun he => by
    obtain ⟨_, _, _, q, _, cells, hc⟩ := hk
    obtain ⟨_, o, ho, hn⟩ := hr k he.symm
    rw [hc] at ho
    cases ho
    cases hn))) (fun _ hk => hk.1)
def colTab : List Int := [0, 0, 2, 2, 2, 0, 0, 4, 3, 3, 1, 1, 1, 1, 1, 1, 1, 1, 0, 0, 0, 0, 0, 0, 0, 0, 5, 5, 5, 5, 5, 5, 5, 5, 5, 5, 5, 5, 5, 5, 5]
def ColTab (W : World) : Prop := ∃ t fz, W.heap[0]? = some (.cells (colTab.map fun z => Value.int .i64 z).toArray t fz)
theorem ColTab.below {W W' : World} (h : ColTab W) (hb : Below W.heap.size W W') : ColTab W' := by
  obtain ⟨t, fz, h⟩ := h
  exact ⟨t, fz, (hb.block 0 (Array.getElem?_eq_some_iff.1 h).1).trans h⟩
theorem ColTab.cell {W : World} (h : ColTab W) (k : Nat) (hk : k < 41) : W.cell? ⟨0, k, none⟩ = some (.int .i64 (colTab.getD k 0)) := by
  obtain ⟨t, fz, h⟩ := h
  have hl : colTab.length = 41 := rfl
  unfold World.cell?
  simp [h, List.getElem?_map, List.getD_eq_getElem?_getD, List.getElem?_eq_getElem (show k < colTab.length by omega)]
def colOf (E : List Ent) (k : Int) (s : Int × Int) : Int × Int := if k = 6 then (firstOf E s).getD (0, 0) else if k < 41 then (colTab.getD k.toNat 0, 0) else (0, 0)
def markO (E : List Ent) (k : Int) (s : Int × Int) : List S57 := if (colOf E k s).1 = 0 then [] else [⟨⟨s.1, s.2⟩, (colOf E k s).1 - 1, (colOf E k s).2⟩]
def spanA (x : AT × Int × Int) : Int × Int := (x.2.1, wrap64 (x.2.1 + x.1.wd))
def marksA (E : List Ent) (xs : List (AT × Int × Int)) : List S57 := xs.flatMap fun x => markO E x.1.k (spanA x)
theorem marksA_snoc (E : List Ent) (xs : List (AT × Int × Int)) (x : AT × Int × Int) : marksA E (xs ++ [x]) = marksA E xs ++ markO E x.1.k (spanA x) := by
  unfold marksA
  rw [List.flatMap_append, List.flatMap_singleton]
theorem markO_len (E : List Ent) (k : Int) (s : Int × Int) : (markO E k s).length ≤ 1 := by
  unfold markO
  split <;> simp
theorem marksA_len (E : List Ent) (xs : List (AT × Int × Int)) : (marksA E xs).length ≤ xs.length := by
  unfold marksA
  induction xs with
  | nil => simp
  | cons x r ih =>
    rw [List.flatMap_cons, List.length_append, List.length_cons]
    have := markO_len E x.1.k (spanA x)
    omega
def fewE (E : List Ent) : Prop := ∀ e ∈ E, 0 ≤ e.2.1 ∧ e.2.1 ≤ 8
theorem fewE_ents (ds : List S72) (bs : List S43) : fewE (ents ds bs) := by
  intro e he
  have hc : ∀ k, 6 ≤ calN k ∧ calN k ≤ 8 := fun k => by unfold calN; split <;> (try split) <;> omega
  rcases List.mem_append.1 he with h | h
  · obtain ⟨d, _, rfl⟩ := List.mem_map.1 h
    have := hc d.f1
    simp only [entD]
    omega
  · obtain ⟨d, _, rfl⟩ := List.mem_map.1 h
    unfold entB
    simp only
    split
    · have := hc (rd_T72 ds d.f1).f1
      simp only
      omega
    · simp
theorem colTab_few : ∀ k : Nat, 0 ≤ colTab.getD k 0 ∧ colTab.getD k 0 ≤ 8 := by
  intro k
  by_cases h : k < 41
  · have : ∀ k : Fin 41, 0 ≤ colTab.getD k.1 0 ∧ colTab.getD k.1 0 ≤ 8 := by decide
    exact this ⟨k, h⟩
  · rw [List.getD_eq_getElem?_getD, List.getElem?_eq_none (by show 41 ≤ k; omega)]
    simp
theorem firstOf_few {E : List Ent} (h : fewE E) (s : Int × Int) : 0 ≤ ((firstOf E s).getD (0, 0)).1 ∧ ((firstOf E s).getD (0, 0)).1 ≤ 8 := by
  unfold firstOf
  cases hf : E.find? (fun e => e.1 == s) with
  | none => simp
  | some e => simpa using h e (List.mem_of_find?_eq_some hf)
theorem infoMark : (Tryd.prog.info? 57).map (fun i => (i.zero, i.size, i.bytes)) = some (some (.agg #[.int .i64 0, .int .i64 0, .int .i64 0, .int .i64 0]), 4, 32) := by kernel_rfl
theorem keeps_below {B : Nat} {W W' : World} (h : Below W.heap.size W W') : KeepsFrom B W W' := ⟨h.size, fun q o _ ho _ => (h.block q (Array.getElem?_eq_some_iff.1 ho).1).trans ho⟩
theorem mark_app {V Wb Wc : World} {B nn cv : Nat} {Av : Option Addr} {L : List S57} (f ft k1 k2 : Int) (hB : V.heap.size < B) (hBW : B ≤ Wb.heap.size) (hov : Wb.heap[V.heap.size]? = some (.cells #[.slice Av nn cv] 47 (0, 0))) (hrow : Kd.R k57 57 Wb V.heap.size (fun k => k ≠ V.heap.size) (.slice Av nn cv) L) (hlow : Below V.heap.size V Wb) (hbc : Below Wb.heap.size Wb Wc) (hL : nn < 2000000) :
    ∃ g cap w1, (Builtin.append_ #[47, 47] 47 #[.slice Av nn cv, .slice (some ⟨Wc.heap.size, 0, none⟩) 1 1]).run Tryd.prog (Wc.alloc (.cells #[.int .i64 f, .int .i64 ft, .int .i64 k1, .int .i64 k2] 57)) = .ok (.slice (some ⟨g, 0, none⟩) (nn + 1) cap) w1 ∧
      w1.heap[V.heap.size]? = some (.cells #[.slice Av nn cv] 47 (0, 0)) ∧ ∀ WF, WF = w1.setCell ⟨V.heap.size, 0, none⟩ (.slice (some ⟨g, 0, none⟩) (nn + 1) cap) → KeepsFrom B Wb WF ∧ Kp V.heap.size B [V.heap.size] Wb WF ∧ (∃ v, WF.heap[V.heap.size]? = some (.cells #[v] 47 (0, 0)) ∧ Kd.R k57 57 WF V.heap.size (fun k => k ≠ V.heap.size) v (L ++ [⟨⟨f, ft⟩, k1, k2⟩])) ∧ Below V.heap.size V WF ∧ Wb.heap.size ≤ WF.heap.size := by
  have hn := (Kd.R_reads' hrow).1
  have hrc := Kd.R_below hrow hbc
  have hoc := blk_below hov hbc
  have hbx : ∀ b ∈ [V.heap.size], b < B := fun b hb => by rw [List.mem_singleton] at hb; omega
  obtain ⟨Y, hY⟩ : ∃ Y, Y = Wc.alloc (.cells #[.int .i64 f, .int .i64 ft, .int .i64 k1, .int .i64 k2] 57) := ⟨_, rfl⟩
  have hbY : Below Wc.heap.size Wc Y := by rw [hY]; exact below_alloc (Below.refl _ _) _
  have hsc := hbc.size
  obtain ⟨g, cap, w1, hrun, hg, hgo, hbg, hnl, hR1⟩ := append_elem k57 57 47 hrc (Nat.le_trans hlow.size hsc) (fun k hk => by omega) Tryd.underlying47 infoMark rfl (by decide) (by decide) (by omega) hbY ⟨⟨f, ft⟩, k1, k2⟩ [.int .i64 f, .int .i64 ft, .int .i64 k1, .int .i64 k2] (by rw [hY]; exact heap_alloc_new _ _) (k57_mkM _ _ _ _) rfl (by intro u hu; simp at hu; rcases hu with rfl | rfl | rfl | rfl <;> rfl)
  obtain ⟨f1, f2, f3, f4, f5, f6⟩ := kp_append (cap := cap) (Nat.le_refl _) hB (by omega) hoc hrc hg hgo
  refine ⟨g, cap, w1, by rw [← hY]; exact hrun, (hg.block _ (blk_lt hoc) (fun e => hrc.1 _ e.symm rfl)).trans hoc, fun WF hWF => ?_⟩
  rw [← hWF] at f1 f2 f3 f4 f5 f6
  have hk := Kp.of_below (n0 := V.heap.size) hbx hlow.size hBW hbc
  exact ⟨⟨Nat.le_trans hbc.size f1.size, fun k o h1 h2 h3 => f1.same k o h1 ((hbc.block k (Array.getElem?_eq_some_iff.1 h2).1).trans h2) h3⟩, hk.trans f2, ⟨_, f4, f6 hR1⟩, hlow.trans ((hbc.mono hlow.size).trans f3), Nat.le_trans hsc f5⟩
mutual
theorem pre_in : ∀ (T : AT) (f d : Int), inI f → ∀ x ∈ T.pre f d, inI x.2.1
  | .node k w wd A c kids, f, d, h, x, hx => by
    simp only [AT.pre, List.mem_cons] at hx
    rcases hx with rfl | hx
    · exact h
    · exact preL_in kids f d h x hx
theorem preL_in : ∀ (l : List AT) (f d : Int), inI f → ∀ x ∈ preL l f d, inI x.2.1
  | [], f, d, h, x, hx => by simp [preL] at hx
  | T :: r, f, d, h, x, hx => by
    simp only [preL, List.mem_append] at hx
    rcases hx with hx | hx
    · exact pre_in T f _ h x hx
    · exact preL_in r _ d (inI_wrap _) x hx
end
theorem all_in' (T : AT) : ∀ x ∈ T.all, inI x.2.1 := by
  intro x hx
  unfold AT.all at hx
  split at hx
  · exact pre_in T 0 0 (by unfold inI; omega) x hx
  · simp at hx
theorem mem_prefix {α : Type} {l m : List α} {x : α} (h : (l ++ [x]) <+: m) : x ∈ m := h.subset (by simp)
theorem right_in (n : Nat) (k w1 wd : Int) (A : Option Addr) (c : Nat) (kids : List AT) (W : World) (hT : AtT W (.node k w1 wd A c kids)) :
    CallsIn Fence.wide n Tryd.prog 27 #[.agg #[.int .u8 k, .int .u8 w1, .int .i64 wd, .slice A kids.length c]] W fun e w' => e = .returned (.bool (okB (AT.node k w1 wd A c kids).erase)) ∧ Below W.heap.size W w' := by
  have hC := C_of_AT _ (.node k w1 wd A c kids) (Nat.lt_succ_self _) W hT
  have hle : kids.length ≤ c := by simp only [AtT] at hT; exact hT.1
  simp only [AT.A, AT.kids] at hC
  rw [← eraseL_length] at hC hle ⊢
  exact callsIn_wide.2 (tree_Right.calls k w1 wd A c (eraseL kids) _ W hC hle (by rw [AT.erase]; exact right_prog _ _ _ _))
set_option maxHeartbeats 8000000 in
set_option maxRecDepth 100000 in
theorem classOf_good (s : ByteArray) (w1 : Int) (A : Option Addr) (c : Nat) (kids : List AT) (Ad : Option Addr) (cd : Nat) (ds : List S72) (Ab : Option Addr) (cb : Nat) (bs : List S43) (W : World) (hT : AtT W (.node 51 w1 s.size A c kids)) (hd : Kd.C k72 W Ad ds.length ds) (hb : Kd.C k43 W Ab bs.length bs) (hdi : inDs ds) (hbi : inBs bs) (hn : ds.length + bs.length ≤ 100000)
    (hok : okB (AT.node 51 w1 s.size A c kids).erase = true) (hN : (AT.node 51 w1 s.size A c kids).all.length ≤ 2000000) (hby : ∀ x ∈ (AT.node 51 w1 s.size A c kids).all, 0 ≤ x.1.k ∧ x.1.k ≤ 255) (htab : ColTab W) :
    Calls Tryd.prog 13 #[.string s, .agg #[.int .u8 51, .int .u8 w1, .int .i64 s.size, .slice A kids.length c], .agg #[.slice Ad ds.length cd, .slice Ab bs.length cb]] W fun e W' => ∃ v, e = .returned (.tuple #[v, .int .i64 0]) ∧ Kd.R k57 57 W' W.heap.size (fun _ => True) v (marksA (ents ds bs) (AT.node 51 w1 s.size A c kids).all) ∧ Below W.heap.size W W' := by
  refine (callsIn_wide (n := 4)).1 ?_
  obtain ⟨V1, hV1⟩ : ∃ V, V = W.alloc (boxN 51 w1 s.size A kids.length c) := ⟨_, rfl⟩
  obtain ⟨V2, hV2⟩ : ∃ V, V = V1.alloc (.cells #[.slice Ad ds.length cd, .slice Ab bs.length cb] 26) := ⟨_, rfl⟩
  have s1 : V1.heap.size = W.heap.size + 1 := by rw [hV1]; simp
  have e1 : Below W.heap.size W V1 := by rw [hV1]; exact below_alloc (Below.refl _ _) _
  have e2 : Below V1.heap.size V1 V2 := by rw [hV2]; exact below_alloc (Below.refl _ _) _
  have k1 : V2.heap[W.heap.size]? = some (boxN 51 w1 s.size A kids.length c) := blk_below (by rw [hV1]; exact heap_alloc_new _ _) e2
  have k2 : V2.heap[W.heap.size + 1]? = some (.cells #[.slice Ad ds.length cd, .slice Ab bs.length cb] 26 (0, 0)) := by rw [hV2, ← s1]; exact heap_alloc_new _ _
  have HBV := Aside0.mk (below_step e1 e2)
  have HT := Aside0.mk hT
  have HD := Aside0.mk hd
  have HB := Aside0.mk hb
  have HDI := Aside0.mk hdi
  have HBI := Aside0.mk hbi
  have HN := Aside0.mk hn
  have HNN := Aside0.mk hN
  have HBY := Aside0.mk hby
  have HTAB := Aside0.mk htab
  have HOK := Aside0.mk hok
  have HK1 := Aside0.mk k1
  have HK2 := Aside0.mk k2
  have HE1 := Aside0.mk hV1
  have HE2 := Aside0.mk hV2
  have p0 := blk_cell k1 0
  have p1 := blk_cell k1 1
  have p2 := blk_cell k1 2
  have p3 := blk_cell k1 3
  have r0 := blk_cell k2 0
  have r1 := blk_cell k2 1
  simp at p0 p1 p2 p3 r0 r1
  have l1 := blk_lt k1
  have l2 := blk_lt k2
  have hu := Tryd.underlying29
  have hun := Tryd.underlying26
  clear hT hd hb hdi hbi hn hN hby htab hok k1 k2 hV1 hV2 e1 e2 s1
  refine callsIn_of_wp_marks Tryd.func13 rfl trivial ?_ rfl
  simp only [Tryd.ntmps13, List.size_toArray, List.length_cons, List.length_nil, Nat.reduceAdd, Nat.reduceSub, Array.replicate_succ, Array.replicate_zero, List.push_toArray, List.append_toArray, List.nil_append, List.cons_append]
  gi_wp2
  refine ⟨trivial, ?_⟩
  change CallsIn Fence.wide 3 Tryd.prog 27 _ ((W.alloc (boxN 51 w1 s.size A kids.length c)).alloc (.cells #[.slice Ad ds.length cd, .slice Ab bs.length cb] 26)) _
  rw [← HE1.out, ← HE2.out]
  refine (right_in 3 51 w1 s.size A c kids V2 (AtT.below HBV.out _ HT.out)).mono ?_
  rintro e V3 ⟨rfl, hb3⟩
  rw [HOK.out]
  have HB3 := Aside0.mk (below_step HBV.out hb3)
  have k1 := blk_below HK1.out hb3
  have k2 := blk_below HK2.out hb3
  have p0 := blk_cell k1 0
  have p1 := blk_cell k1 1
  have p2 := blk_cell k1 2
  have p3 := blk_cell k1 3
  have r0 := blk_cell k2 0
  have r1 := blk_cell k2 1
  simp at p0 p1 p2 p3 r0 r1
  have l1 := blk_lt k1
  have l2 := blk_lt k2
  have HK1 := Aside0.mk k1
  clear k1 k2 hb3
  gi_wp2
  refine ⟨trivial, ?_⟩
  refine (callsIn_wide.2 (names_calls Ad cd ds Ab cb bs V3 (Kd.C_below HD.out HB3.out) (Kd.C_below HB.out HB3.out) HDI.out HBI.out HN.out)).mono ?_
  rintro e V4 ⟨bm, nm, rfl, hH, hlo, hb4⟩
  obtain ⟨E, hE⟩ : ∃ E, E = ents ds bs := ⟨_, rfl⟩
  have HFE := Aside0.mk (show fewE E by rw [hE]; exact fewE_ents ds bs)
  rw [← hE] at hH
  have HE := Aside0.mk hE
  clear hE
  obtain ⟨V, hV⟩ : ∃ V, V = V4.alloc (.cells #[.map (some bm)] 89) := ⟨_, rfl⟩
  have e5 : Below V4.heap.size V4 V := by rw [hV]; exact below_alloc (Below.refl _ _) _
  have hs5 : V.heap.size = V4.heap.size + 1 := by rw [hV]; simp
  obtain ⟨Va, hVa⟩ : ∃ X, X = V.alloc (.cells #[.slice none 0 0] 47) := ⟨_, rfl⟩
  have hba : Below V.heap.size V Va := by rw [hVa]; exact below_alloc (Below.refl _ _) _
  have hsa : Va.heap.size = V.heap.size + 1 := by rw [hVa]; simp
  have HBW := Aside0.mk (below_step HB3.out (below_step hb4 e5))
  have HHV := Aside0.mk (hH.below e5)
  have HM8 := Aside0.mk (show V.heap[V4.heap.size]? = some (.cells #[.map (some bm)] 89 (0, 0)) by rw [hV]; exact heap_alloc_new _ _)
  have HOB := Aside0.mk (show Va.heap[V.heap.size]? = some (.cells #[.slice none 0 0] 47 (0, 0)) by rw [hVa]; exact heap_alloc_new _ _)
  have HS5 := Aside0.mk hs5
  have HSA := Aside0.mk hsa
  have HBA := Aside0.mk hba
  have k1 := blk_below HK1.out hb4
  have p0 := blk_cell k1 0
  have p1 := blk_cell k1 1
  have p2 := blk_cell k1 2
  have p3 := blk_cell k1 3
  simp at p0 p1 p2 p3
  have l1 := blk_lt k1
  have HV := Aside0.mk hV
  have HVA := Aside0.mk hVa
  clear r0 r1 l2 HK1 HK2 hH hlo hb4 e5 hs5 hba hsa k1 hV hVa
  gi_wp2
  refine ⟨trivial, ?_⟩
  change CallsIn Fence.wide 3 Tryd.prog 29 _ ((V4.alloc (.cells #[.map (some bm)] 89)).alloc (.cells #[.slice none 0 0] 47)) _
  rw [← HV.out, ← HVA.out]
  refine (walkF_in _ _ _ _ _ _ _ _).mono ?_
  rintro e w' ⟨rfl, rfl⟩
  obtain ⟨W1, hW1⟩ : ∃ X, X = Va.alloc (boxN 51 w1 s.size A kids.length c) := ⟨_, rfl⟩
  have HNB := Aside0.mk (show W1.heap[Va.heap.size]? = some (boxN 51 w1 s.size A kids.length c) by rw [hW1]; exact heap_alloc_new _ _)
  have hb1 : Below Va.heap.size Va W1 := by rw [hW1]; exact below_alloc (Below.refl _ _) _
  have HS1 := Aside0.mk (show W1.heap.size = V.heap.size + 2 by rw [hW1, World.size_alloc, HSA.out])
  have HB1 := Aside0.mk (below_step HBA.out hb1)
  have HOB1 := Aside0.mk (blk_below HOB.out hb1)
  rw [← hW1]
  clear hW1 hb1 p0 p1 p2 p3 l1
  gi_wp2
  rw [← HS5.out]
  have hbx : ∀ b ∈ [V.heap.size], b < W1.heap.size := fun b hb => by rw [List.mem_singleton] at hb; have := HS1.out; omega
  have hIV : ∀ X : World, (∃ v, X.heap[V.heap.size]? = some (.cells #[v] 47 (0, 0)) ∧ ∀ k, v.ownBlock = some k → k < X.heap.size) → Valid [V.heap.size] X := by
    rintro X ⟨v, hv, hl⟩ k ⟨b, hb, u, hu', ho⟩
    rw [List.mem_singleton] at hb
    subst hb
    rw [blk_cell hv 0] at hu'
    simp at hu'
    subst hu'
    exact hl k ho
  refine rangeF (w := W1) (gf := 57) (lb := #[.pointer (some ⟨Va.heap.size, 0, none⟩)]) rfl (enters_of Tryd.func57 (by kernel_rfl) rfl)
    (walk_stops V V.heap.size W1.heap.size rfl (by have := HS1.out; omega) [V.heap.size] hbx Va.heap.size (.node 51 w1 s.size A c kids) W1 (AtT.below HBW.out _ HT.out) HB1.out HNB.out)
    (fun h k => Kp.trans h k) (fun W o o' h hc => Kp.record hbx (by have := HS1.out; omega) W o o' h hc) (Below.refl _ _) (fun _ => rfl)
    (fun pre X => (∃ v, X.heap[V.heap.size]? = some (.cells #[v] 47 (0, 0)) ∧ Kd.R k57 57 X V.heap.size (fun k => k ≠ V.heap.size) v (marksA E (pre.map (·.1)))) ∧ Below V.heap.size V X ∧ W1.heap.size + 2 ≤ X.heap.size)
    (fun c pre X => False)
    (fun s A B row hs hg hr => by
      obtain ⟨⟨v, h1, h2⟩, h3, h4⟩ := hs
      exact ⟨⟨v, own_cells s A B row h1 hg hr, own_R' h2 hg hr⟩, h3.grown hg h3.size (fun k hk => by have := (hr k hk).1; have := HS1.out; omega), Nat.le_trans h4 hg.size⟩)
    (fun c s A B row hs hg hr => hs)
    (fun pre X h => by
      obtain ⟨⟨v, h1, h2⟩, h3, h4⟩ := h
      exact ⟨hIV X ⟨v, h1, Kd.R_lt h2⟩, h4⟩)
    (fun Wq hbq hsq => ⟨⟨_, blk_below HOB1.out hbq, Kd.R_nil _ _ _ _ _⟩, below_step HB1.out hbq, hsq⟩)
    ?round ?done ?stop
  case round =>
    rintro l' pre ⟨⟨⟨nk, nw, nwd, nA, nc, nkids⟩, f, d⟩, hTn⟩ X C hX ⟨⟨v, hov, hrow⟩, hlow, hsz⟩ hp hC
    obtain ⟨xx, hxx⟩ : ∃ xx : Told V, xx = ⟨(AT.node nk nw nwd nA nc nkids, f, d), hTn⟩ := ⟨_, rfl⟩
    have HXX := Aside0.mk (show xx.1 = (AT.node nk nw nwd nA nc nkids, f, d) by rw [hxx])
    have HC := Aside0.mk hC
    rw [← hxx] at hp HC
    have hmem : xx.1 ∈ (AT.node 51 w1 s.size A c kids).all := mem_prefix (l := pre.map (·.1)) (by rw [List.map_append] at hp; exact hp)
    have HKR := Aside0.mk (show 0 ≤ nk ∧ nk ≤ 255 by have := HBY.out xx.1 hmem; rw [HXX.out] at this; exact this)
    have HIF := Aside0.mk (show inI f by have := all_in' _ xx.1 hmem; rw [HXX.out] at this; exact this)
    have HLN := Aside0.mk (show pre.length < 2000000 by
      have h1 := hp.length_le
      have h2 := HNN.out
      simp only [List.length_map, List.length_append, List.length_singleton] at h1
      omega)
    obtain ⟨ft, hft⟩ : ∃ ft, ft = wrap64 (f + nwd) := ⟨_, rfl⟩
    have HIT := Aside0.mk (show inI ft by rw [hft]; exact inI_wrap _)
    have HSN := Aside0.mk (show marksA E ((pre ++ [xx]).map (·.1)) = marksA E (pre.map (·.1)) ++ markO E nk (f, ft) by
      rw [List.map_append, List.map_singleton, marksA_snoc, HXX.out, hft]
      rfl)
    obtain ⟨X2, hX2⟩ : ∃ X2, X2 = (X.alloc (.cells #[.int .i64 f, .int .i64 ft] 41)).alloc (boxN nk nw nwd nA nkids.length nc) := ⟨_, rfl⟩
    have hbx2 : Below X.heap.size X X2 := by rw [hX2]; exact Below.alloc (below_alloc (Below.refl _ _) _) (by simp) _
    have h15 : X2.heap[X.heap.size + 1]? = some (boxN nk nw nwd nA nkids.length nc) := by
      rw [hX2]
      have := heap_alloc_new (X.alloc (.cells #[.int .i64 f, .int .i64 ft] 41)) (boxN nk nw nwd nA nkids.length nc)
      simpa using this
    have h14 : X2.heap[X.heap.size]? = some (.cells #[.int .i64 f, .int .i64 ft] 41 (0, 0)) := by
      rw [hX2, Below.heap_alloc _ _ _ (by simp)]
      exact heap_alloc_new X _
    have HBX := Aside0.mk hbx2
    have H14 := Aside0.mk h14
    have H15 := Aside0.mk h15
    have HX2 := Aside0.mk hX2
    have HHOV := Aside0.mk hov
    have HROW := Aside0.mk hrow
    have HLOW := Aside0.mk hlow
    have HFT := Aside0.mk hft
    have hus := Tryd.underlying41
    have huc := Tryd.underlying95
    have hum := Tryd.underlying57
    clear hC hp hxx hbx2 h14 h15 hX2 hov hrow hlow hmem
    simp only [spanV, AT.val, AT.k, AT.w, AT.wd, AT.A, AT.c, AT.kids]
    rw [← hft]
    clear hft
    gi_wp2
    rw [← HX2.out]
    refine HC.out _ _ ⟨HBX.out.size, fun q o _ ho _ => (HBX.out.block q (Array.getElem?_eq_some_iff.1 ho).1).trans ho⟩ (Kp.of_below hbx (HLOW.out.size) (by omega) HBX.out) ⟨⟨v, blk_below HHOV.out HBX.out, Kd.R_below HROW.out HBX.out⟩, below_step HLOW.out HBX.out, Nat.le_trans hsz HBX.out.size⟩ (fun Wb hKb hIb hcells hszb => ?_)
    obtain ⟨⟨vb, hovb, hrowb⟩, hlowb, hsb⟩ := hIb
    have hw14 := hcells _ _ _ _ H14.out
    have hw15 := hcells _ _ _ _ H15.out
    obtain ⟨Av, cv, e⟩ := Kd.R_slice hrowb
    subst e
    obtain ⟨nn, hnn⟩ : ∃ nn, nn = (marksA E (pre.map (·.1))).length := ⟨_, rfl⟩
    rw [← hnn] at hrowb hovb
    have HML := Aside0.mk (show nn < 2000000 by have h1 := marksA_len E (pre.map (·.1)); have h2 := HLN.out; rw [List.length_map] at h1; omega)
    have HHB := Aside0.mk (show Holds Wb bm nm E from HHV.out.keep (hlowb.block _ HHV.out.lt))
    have HTB := Aside0.mk (show ColTab Wb by
      obtain ⟨t, fz, h⟩ := HTAB.out.below HBW.out
      exact ⟨t, fz, (hlowb.block 0 (Array.getElem?_eq_some_iff.1 h).1).trans h⟩)
    have h8 := (hlowb.block _ (blk_lt HM8.out)).trans HM8.out
    have c8 := blk_cell h8 0
    have m0 := blk_cell hw14 0
    have m1 := blk_cell hw14 1
    have m4 := blk_cell hw15 0
    have mo := blk_cell hovb 0
    have lo := blk_lt hovb
    have l14 := blk_lt hw14
    have l15 := blk_lt hw15
    have l8 := blk_lt h8
    simp at c8 m0 m1 m4 mo
    have HOVb := Aside0.mk hovb
    have HROWb := Aside0.mk hrowb
    have HLOWb := Aside0.mk hlowb
    have HKB := Aside0.mk hKb
    have HSB := Aside0.mk hsb
    clear hovb hrowb hlowb hKb hsb hw14 hw15 hcells hnn hszb hsz h8
    by_cases c6 : nk = 6
    · have d6 : (nk == 6) = true := beq_iff_eq.mpr c6
      obtain ⟨cc, hcc⟩ : ∃ cc, cc = (firstOf E (f, ft)).getD (0, 0) := ⟨_, rfl⟩
      have hlk := (HHB.out.below (below_alloc (Below.refl _ _) (.cells #[.int .i64 0, .int .i64 0] 95))).look (f, ft) HIF.out HIT.out
      rw [← hcc] at hlk
      have HCO := Aside0.mk (show colOf E nk (f, ft) = cc by unfold colOf; rw [if_pos c6, hcc])
      have HCF := Aside0.mk (show 0 ≤ cc.1 ∧ cc.1 ≤ 8 by rw [hcc]; exact firstOf_few HFE.out _)
      clear hcc c6
      obtain ⟨k1, k2⟩ := cc
      simp only at hlk HCF
      by_cases c0 : k1 = 0
      · have d0 : (k1 != 0) = false := by simp [c0]
        have HMN := Aside0.mk (show markO E nk (f, ft) = [] by unfold markO; rw [if_pos (by rw [HCO.out]; exact c0)])
        clear c0
        gi_wp2
        have hbc := below_alloc (Below.refl Wb.heap.size Wb) (.cells #[.int .i64 k1, .int .i64 k2] 95)
        exact ⟨keeps_below hbc, HKB.out.trans (Kp.of_below hbx HLOWb.out.size (by have := HSB.out; omega) hbc), ⟨_, blk_below HOVb.out hbc, by rw [HSN.out, HMN.out, List.append_nil]; exact Kd.R_below HROWb.out hbc⟩, below_step HLOWb.out hbc, Nat.le_trans HSB.out hbc.size⟩
      · have d0 : (k1 != 0) = true := by simp [c0]
        have HMN := Aside0.mk (show markO E nk (f, ft) = [⟨⟨f, ft⟩, k1 - 1, k2⟩] by unfold markO; rw [if_neg (by rw [HCO.out]; exact c0), HCO.out])
        have hk0 := HCF.out.1
        have hk8 := HCF.out.2
        have hbc := below_alloc (Below.refl Wb.heap.size Wb) (.cells #[.int .i64 k1, .int .i64 k2] 95)
        obtain ⟨g, cap, w5, hrun, how, hfin⟩ := mark_app f ft (k1 - 1) k2 (B := W1.heap.size) (by have := HS1.out; omega) (by have := HSB.out; omega) HOVb.out HROWb.out HLOWb.out hbc HML.out
        simp only [World.size_alloc] at hrun
        have mo5 := blk_cell how 0
        have fo5 := blk_frozen how 0
        have lo5 := blk_lt how
        simp at mo5
        have HFIN := Aside0.mk hfin
        clear c0 hbc hfin how
        gi_wp2_with (gi_at_builtin; refine wpListIn_append_run rfl _ _ _ rfl hrun ?_)
        obtain ⟨f1, f2, f3, f4, f5⟩ := HFIN.out _ rfl
        exact ⟨f1, HKB.out.trans f2, by rw [HSN.out, HMN.out]; exact f3, f4, Nat.le_trans HSB.out f5⟩
    · have d6 : (nk == 6) = false := beq_eq_false_iff_ne.mpr c6
      obtain ⟨kn, hkn⟩ : ∃ kn : Nat, nk = (kn : Int) := ⟨nk.toNat, by have := HKR.out; omega⟩
      have hk255 : kn ≤ 255 := by have := HKR.out; omega
      subst hkn
      by_cases c41 : kn < 41
      · have hct := HTB.out.cell kn c41
        have d41 : (kn : Int) < 41 := by omega
        obtain ⟨k1, hk1⟩ : ∃ k1, k1 = colTab.getD kn 0 := ⟨_, rfl⟩
        have HCO := Aside0.mk (show colOf E (kn : Int) (f, ft) = (k1, 0) by unfold colOf; rw [if_neg c6, if_pos d41, Int.toNat_natCast, hk1])
        have HCF := Aside0.mk (show 0 ≤ k1 ∧ k1 ≤ 8 by rw [hk1]; exact colTab_few kn)
        rw [← hk1] at hct
        have l00 : 0 < Wb.heap.size := by omega
        clear hk1 c6
        by_cases c0 : k1 = 0
        · have d0 : (k1 != 0) = false := by simp [c0]
          have HMN := Aside0.mk (show markO E (kn : Int) (f, ft) = [] by unfold markO; rw [if_pos (by rw [HCO.out]; exact c0)])
          clear c0
          gi_wp2
          have hbc := below_alloc (Below.refl Wb.heap.size Wb) (.cells #[.int .i64 k1, .int .i64 0] 95)
          exact ⟨keeps_below hbc, HKB.out.trans (Kp.of_below hbx HLOWb.out.size (by have := HSB.out; omega) hbc), ⟨_, blk_below HOVb.out hbc, by rw [HSN.out, HMN.out, List.append_nil]; exact Kd.R_below HROWb.out hbc⟩, below_step HLOWb.out hbc, Nat.le_trans HSB.out hbc.size⟩
        · have d0 : (k1 != 0) = true := by simp [c0]
          have HMN := Aside0.mk (show markO E (kn : Int) (f, ft) = [⟨⟨f, ft⟩, k1 - 1, 0⟩] by unfold markO; rw [if_neg (by rw [HCO.out]; exact c0), HCO.out])
          have hk0 := HCF.out.1
          have hk8 := HCF.out.2
          have hbc := below_alloc (Below.refl Wb.heap.size Wb) (.cells #[.int .i64 k1, .int .i64 0] 95)
          obtain ⟨g, cap, w5, hrun, how, hfin⟩ := mark_app f ft (k1 - 1) 0 (B := W1.heap.size) (by have := HS1.out; omega) (by have := HSB.out; omega) HOVb.out HROWb.out HLOWb.out hbc HML.out
          simp only [World.size_alloc] at hrun
          have mo5 := blk_cell how 0
          have fo5 := blk_frozen how 0
          have lo5 := blk_lt how
          simp at mo5
          have HFIN := Aside0.mk hfin
          clear c0 hbc hfin how
          gi_wp2_with (gi_at_builtin; refine wpListIn_append_run rfl _ _ _ rfl hrun ?_)
          obtain ⟨f1, f2, f3, f4, f5⟩ := HFIN.out _ rfl
          exact ⟨f1, HKB.out.trans f2, by rw [HSN.out, HMN.out]; exact f3, f4, Nat.le_trans HSB.out f5⟩
      · have d41 : ¬ (kn : Int) < 41 := by omega
        have HMN := Aside0.mk (show markO E (kn : Int) (f, ft) = [] by unfold markO colOf; rw [if_neg c6, if_neg d41]; rfl)
        clear c6
        gi_wp2
        have hbc := below_alloc (Below.refl Wb.heap.size Wb) (.cells #[.int .i64 0, .int .i64 0] 95)
        exact ⟨keeps_below hbc, HKB.out.trans (Kp.of_below hbx HLOWb.out.size (by have := HSB.out; omega) hbc), ⟨_, blk_below HOVb.out hbc, by rw [HSN.out, HMN.out, List.append_nil]; exact Kd.R_below HROWb.out hbc⟩, below_step HLOWb.out hbc, Nat.le_trans HSB.out hbc.size⟩
  case done =>
    rintro xs X hS ⟨⟨v, hov, hrow⟩, hlow, hsz⟩ hD
    have HD := Aside0.mk hD
    have HROW := Aside0.mk hrow
    have ko := blk_cell hov 0
    simp at ko
    clear hD hrow
    gi_wp2
    refine ⟨by simp, .inl ⟨_, _, rfl, run_takeDeferred HD.out, ?_⟩⟩
    refine ⟨_, results_tmp2 rfl _ _ _, _, rfl, ?_, ?_⟩
    · rw [← hS, ← HE.out]
      exact Kd.R_mono (Kd.R_lower (own_R' (B := 0) HROW.out (grownBy_putObj' X W1.heap.size (.deferred none)) (fun r hr => by cases hr; exact ⟨Nat.zero_le _, _, HD.out, rfl⟩)) HBW.out.size) (fun _ _ => trivial)
    · exact below_step HBW.out (hlow.trans (below_putObj X _ (by have := HS1.out; omega)))
  case stop =>
    rintro c pre X hS hf hD
    exact hf.elim
end Go.Proofs.YtobgkpnigjfhmaaDoor.H
