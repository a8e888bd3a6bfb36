/- Texts of this claim, merged. -/
import Derived.Test.YtobgkpnigjfhmaaDoorZ7
import Derived.Lib.LaidTab
set_option maxRecDepth 100000
set_option maxHeartbeats 8000000
set_option linter.unusedVariables false
set_option linter.unusedSimpArgs false
namespace Go.Proofs.YtobgkpnigjfhmaaDoor.H
open Go.RowKit Go.Shelf Go.Proofs.YtobgkpnigjfhmaaDoorW.PrintWords Go.Proofs.YtobgkpnigjfhmaaDoorW.PrintLast Go.Proofs.YtobgkpnigjfhmaaDoorW.PrintMore
section
attribute [local go_sem] Oper.semAt_some
theorem wpListIn_append_run {F : Fence} {n : Nat} {P : Program} {w w' : World} {ops : Array Oper} {rest : List Oper} {o : Oper} {a : Act} {Q : Exit → Act → World → Prop} {v' : Value}
  (hg : o.guard = none) (s x : Operand) (t : TypeId) (hop : o.op = Op.call { callee := Callee.builtin Builtin.append, args := #[s, x], argTypes := #[t, t] })
  (hrun : (Builtin.append_ #[t, t] o.type #[a.eval s, a.eval x]).run P w = .ok v' w') (hK : wpListIn F n P ops Q rest (a.put o.dst v') w') : wpListIn F n P ops Q (o :: rest) a w := by
 refine wpListIn_plain hg fun K hK' => ?_
 unfold Oper.wpIn
 refine ⟨?_, ?_⟩
 ·simp [Oper.about, hop, resolve, Target.leads, Sem.run_pure]
 ·rw [Oper.semAt_plain F _ _ (by rw [hop]; intro c hc'; cases hc')]
  simp [execOp, hop, resolve, invoke, builtin, hrun, Result.andThen]; exact hK' _ _ hK
theorem own_R' {α : Type} {d : Kd α} {e base B : Nat} {ok : Nat → Prop} {v : Value} {xs : List α} {X X' : World} {row : Option Nat} (h : d.R e X base ok v xs) (hg : X.grownBy X' row) (hr : ∀ r, row = some r → B ≤ r ∧ ∃ o : Obj, X.heap[r]? = some o ∧ o.isCells = false) : d.R e X' base ok v xs :=
 Kd.zbT (Kd.R_step (Kd.R_bound h) (fun k hk hlt => hg.block k hlt (fun he => by
  obtain ⟨_, _, _, q, _, cells, hc⟩ := hk; obtain ⟨_, o, ho, hn⟩ := hr k he.symm; rw [hc] at ho; cases ho; cases hn))) (fun _ hk => hk.1)
def colTab : List Int := [0, 0, 2, 2, 2, 0, 0, 4, 3, 3, 1, 1, 1, 1, 1, 1, 1, 1, 0, 0, 0, 0, 0, 0, 0, 0, 5, 5, 5, 5, 5, 5, 5, 5, 5, 5, 5, 5, 5, 5, 5]
def ColTab (W : World) : Prop := ∃ t fz, W.heap[0]? = some (.cells (colTab.map fun z => Value.int .i64 z).toArray t fz)
theorem ColTab.below {W W' : World} (h : ColTab W) (hb : Below W.heap.size W W') : ColTab W' := by
 obtain ⟨t, fz, h⟩ := h; exact ⟨t, fz, (hb.block 0 (Array.getElem?_eq_some_iff.1 h).1).trans h⟩
theorem ColTab.cell {W : World} (h : ColTab W) (k : Nat) (hk : k < 41) : W.cell? ⟨0, k, none⟩ = some (.int .i64 (colTab.getD k 0)) := by
 obtain ⟨t, fz, h⟩ := h; have hl : colTab.length = 41 := rfl; unfold World.cell?
 simp [h, List.getElem?_map, List.getD_eq_getElem?_getD, List.getElem?_eq_getElem (show k < colTab.length by omega)]
def colOf (E : List Ent) (k : Int) (s : Int × Int) : Int × Int := if k = 6 then (zbq E s).getD (0, 0) else if k < 41 then (colTab.getD k.toNat 0, 0) else (0, 0)
def markO (E : List Ent) (k : Int) (s : Int × Int) : List S57 := if (colOf E k s).1 = 0 then [] else [⟨⟨s.1, s.2⟩, (colOf E k s).1 - 1, (colOf E k s).2⟩]
def spanA (x : AT × Int × Int) : Int × Int := (x.2.1, wrap64 (x.2.1 + x.1.wd))
def marksA (E : List Ent) (xs : List (AT × Int × Int)) : List S57 := xs.flatMap fun x => markO E x.1.k (spanA x)
theorem marksA_snoc (E : List Ent) (xs : List (AT × Int × Int)) (x : AT × Int × Int) : marksA E (xs ++ [x]) = marksA E xs ++ markO E x.1.k (spanA x) := by
 unfold marksA
 rw [List.flatMap_append, List.flatMap_singleton]
theorem markO_len (E : List Ent) (k : Int) (s : Int × Int) : (markO E k s).length ≤ 1 := by
 unfold markO
 split <;> simp
theorem marksA_len (E : List Ent) (xs : List (AT × Int × Int)) : (marksA E xs).length ≤ xs.length := by
 unfold marksA
 induction xs with
 | nil => simp
 | cons x r ih =>
  rw [List.flatMap_cons, List.length_append, List.length_cons]; have := markO_len E x.1.k (spanA x); omega
def fewE (E : List Ent) : Prop := ∀ e ∈ E, 0 ≤ e.2.1 ∧ e.2.1 ≤ 8
theorem fewE_ents (ds : List S72) (bs : List S43) : fewE (ents ds bs) := by
 intro e he
 have hc : ∀ k, 6 ≤ calN k ∧ calN k ≤ 8 := fun k => by unfold calN; split <;> (try split) <;> omega
 rcases List.mem_append.1 he with h | h
 ·obtain ⟨d, _, rfl⟩ := List.mem_map.1 h
  have := hc d.f1; simp only [entD]; omega
 ·obtain ⟨d, _, rfl⟩ := List.mem_map.1 h
  unfold entB
  simp only
  split
  ·have := hc (rd_T72 ds d.f1).f1
   simp only; omega
  ·simp
theorem colTab_few : ∀ k : Nat, 0 ≤ colTab.getD k 0 ∧ colTab.getD k 0 ≤ 8 := by
 intro k
 by_cases h : k < 41
 ·have : ∀ k : Fin 41, 0 ≤ colTab.getD k.1 0 ∧ colTab.getD k.1 0 ≤ 8 := by decide
  exact this ⟨k, h⟩
 ·rw [List.getD_eq_getElem?_getD, List.getElem?_eq_none (by show 41 ≤ k; omega)]
  simp
theorem firstOf_few {E : List Ent} (h : fewE E) (s : Int × Int) : 0 ≤ ((zbq E s).getD (0, 0)).1 ∧ ((zbq E s).getD (0, 0)).1 ≤ 8 := by
 unfold zbq
 cases hf : E.find? (fun e => e.1 == s) with
 | none => simp
 | some e => simpa using h e (List.mem_of_find?_eq_some hf)
theorem infoMark : (Tryd.prog.info? 57).map (fun i => (i.zero, i.size, i.bytes)) = some (some (.agg #[.int .i64 0, .int .i64 0, .int .i64 0, .int .i64 0]), 4, 32) := by kernel_rfl
theorem keeps_below {B : Nat} {W W' : World} (h : Below W.heap.size W W') : KeepsFrom B W W' := ⟨h.size, fun q o _ ho _ => (h.block q (Array.getElem?_eq_some_iff.1 ho).1).trans ho⟩
theorem mark_app {V Wb Wc : World} {B nn cv : Nat} {Av : Option Addr} {L : List S57} (f ft k1 k2 : Int) (hB : V.heap.size < B) (hBW : B ≤ Wb.heap.size) (hov : Wb.heap[V.heap.size]? = some (.cells #[.slice Av nn cv] 47 (0, 0))) (hrow : Kd.R k57 57 Wb V.heap.size (fun k => k ≠ V.heap.size) (.slice Av nn cv) L) (hlow : Below V.heap.size V Wb) (hbc : Below Wb.heap.size Wb Wc) (hL : nn < 2000000) :
  ∃ g cap w1, (Builtin.append_ #[47, 47] 47 #[.slice Av nn cv, .slice (some ⟨Wc.heap.size, 0, none⟩) 1 1]).run Tryd.prog (Wc.alloc (.cells #[.int .i64 f, .int .i64 ft, .int .i64 k1, .int .i64 k2] 57)) = .ok (.slice (some ⟨g, 0, none⟩) (nn + 1) cap) w1 ∧
   w1.heap[V.heap.size]? = some (.cells #[.slice Av nn cv] 47 (0, 0)) ∧ ∀ WF, WF = w1.setCell ⟨V.heap.size, 0, none⟩ (.slice (some ⟨g, 0, none⟩) (nn + 1) cap) → KeepsFrom B Wb WF ∧ Kp V.heap.size B [V.heap.size] Wb WF ∧ (∃ v, WF.heap[V.heap.size]? = some (.cells #[v] 47 (0, 0)) ∧ Kd.R k57 57 WF V.heap.size (fun k => k ≠ V.heap.size) v (L ++ [⟨⟨f, ft⟩, k1, k2⟩])) ∧ Below V.heap.size V WF ∧ Wb.heap.size ≤ WF.heap.size := by
 have hn := (Kd.za0 hrow).1; have hrc := Kd.zbm hrow hbc; have hoc := zat hov hbc; have hbx : ∀ b ∈ [V.heap.size], b < B := fun b hb => by rw [List.mem_singleton] at hb; omega
 obtain ⟨Y, hY⟩ : ∃ Y, Y = Wc.alloc (.cells #[.int .i64 f, .int .i64 ft, .int .i64 k1, .int .i64 k2] 57) := ⟨_, rfl⟩; have hbY : Below Wc.heap.size Wc Y := by rw [hY]; exact zad (Below.refl _ _) _
 have hsc := hbc.size; obtain ⟨g, cap, w1, hrun, hg, hgo, hbg, hnl, hR1⟩ := zbR k57 57 47 hrc (Nat.le_trans hlow.size hsc) (fun k hk => by omega) Tryd.underlying47 infoMark rfl (by decide) (by decide) (by omega) hbY ⟨⟨f, ft⟩, k1, k2⟩ [.int .i64 f, .int .i64 ft, .int .i64 k1, .int .i64 k2] (by rw [hY]; exact heap_alloc_new _ _) (k57_mkM _ _ _ _) rfl (by intro u hu; simp at hu; rcases hu with rfl | rfl | rfl | rfl <;> rfl)
 obtain ⟨f1, f2, f3, f4, f5, f6⟩ := kp_append (cap := cap) (Nat.le_refl _) hB (by omega) hoc hrc hg hgo
 refine ⟨g, cap, w1, by rw [← hY]; exact hrun, (hg.block _ (zaO hoc) (fun e => hrc.1 _ e.symm rfl)).trans hoc, fun WF hWF => ?_⟩
 rw [← hWF] at f1 f2 f3 f4 f5 f6; have hk := Kp.of_below (n0 := V.heap.size) hbx hlow.size hBW hbc; exact ⟨⟨Nat.le_trans hbc.size f1.size, fun k o h1 h2 h3 => f1.same k o h1 ((hbc.block k (Array.getElem?_eq_some_iff.1 h2).1).trans h2) h3⟩, hk.trans f2, ⟨_, f4, f6 hR1⟩, hlow.trans ((hbc.mono hlow.size).trans f3), Nat.le_trans hsc f5⟩
mutual
theorem pre_in : ∀ (T : AT) (f d : Int), inI f → ∀ x ∈ T.pre f d, inI x.2.1
 | .node k w wd A c kids, f, d, h, x, hx => by
  simp only [AT.pre, List.mem_cons] at hx; rcases hx with rfl | hx
  ·exact h
  ·exact preL_in kids f d h x hx
theorem preL_in : ∀ (l : List AT) (f d : Int), inI f → ∀ x ∈ preL l f d, inI x.2.1
 | [], f, d, h, x, hx => by simp [preL] at hx
 | T :: r, f, d, h, x, hx => by
  simp only [preL, List.mem_append] at hx; rcases hx with hx | hx
  ·exact pre_in T f _ h x hx
  ·exact preL_in r _ d (inI_wrap _) x hx
end
theorem all_in' (T : AT) : ∀ x ∈ T.all, inI x.2.1 := by
 intro x hx
 unfold AT.all at hx
 split at hx
 ·exact pre_in T 0 0 (by unfold inI; omega) x hx
 ·simp at hx
theorem mem_prefix {α : Type} {l m : List α} {x : α} (h : (l ++ [x]) <+: m) : x ∈ m := h.subset (by simp)
theorem right_in (n : Nat) (k w1 wd : Int) (A : Option Addr) (c : Nat) (kids : List AT) (W : World) (hT : AtT W (.node k w1 wd A c kids)) :
  CallsIn Fence.wide n Tryd.prog 27 #[.agg #[.int .u8 k, .int .u8 w1, .int .i64 wd, .slice A kids.length c]] W fun e w' => e = .returned (.bool (okB (AT.node k w1 wd A c kids).erase)) ∧ Below W.heap.size W w' := by
 have hC := C_of_AT _ (.node k w1 wd A c kids) (Nat.lt_succ_self _) W hT; have hle : kids.length ≤ c := by simp only [AtT] at hT; exact hT.1
 simp only [AT.A, AT.kids] at hC; rw [← zbp] at hC hle ⊢; exact callsIn_wide.2 (tree_Right.calls k w1 wd A c (zbL kids) _ W hC hle (by rw [AT.erase]; exact right_prog _ _ _ _))
theorem classOf_good (s : ByteArray) (w1 : Int) (A : Option Addr) (c : Nat) (kids : List AT) (Ad : Option Addr) (cd : Nat) (ds : List S72) (Ab : Option Addr) (cb : Nat) (bs : List S43) (W : World) (hT : AtT W (.node 51 w1 s.size A c kids)) (hd : Kd.C k72 W Ad ds.length ds) (hb : Kd.C k43 W Ab bs.length bs) (hdi : inDs ds) (hbi : inBs bs) (hn : ds.length + bs.length ≤ 1000000)
  (hok : okB (AT.node 51 w1 s.size A c kids).erase = true) (hN : (AT.node 51 w1 s.size A c kids).all.length ≤ 2000000) (hby : ∀ x ∈ (AT.node 51 w1 s.size A c kids).all, 0 ≤ x.1.k ∧ x.1.k ≤ 255) (htab : ColTab W) :
  Calls Tryd.prog 13 #[.string s, .agg #[.int .u8 51, .int .u8 w1, .int .i64 s.size, .slice A kids.length c], .agg #[.slice Ad ds.length cd, .slice Ab bs.length cb]] W fun e W' => ∃ v, e = .returned (.tuple #[v, .int .i64 0]) ∧ Kd.R k57 57 W' W.heap.size (fun _ => True) v (marksA (ents ds bs) (AT.node 51 w1 s.size A c kids).all) ∧ Below W.heap.size W W' := by
 refine (callsIn_wide (n := 4)).1 ?_
 obtain ⟨V1, hV1⟩ : ∃ V, V = W.alloc (boxN 51 w1 s.size A kids.length c) := ⟨_, rfl⟩; obtain ⟨V2, hV2⟩ : ∃ V, V = V1.alloc (.cells #[.slice Ad ds.length cd, .slice Ab bs.length cb] 26) := ⟨_, rfl⟩; have s1 : V1.heap.size = W.heap.size + 1 := by rw [hV1]; simp
 have e1 : Below W.heap.size W V1 := by rw [hV1]; exact zad (Below.refl _ _) _
 have e2 : Below V1.heap.size V1 V2 := by rw [hV2]; exact zad (Below.refl _ _) _
 have k1 : V2.heap[W.heap.size]? = some (boxN 51 w1 s.size A kids.length c) := zat (by rw [hV1]; exact heap_alloc_new _ _) e2
 have k2 : V2.heap[W.heap.size + 1]? = some (.cells #[.slice Ad ds.length cd, .slice Ab bs.length cb] 26 (0, 0)) := by rw [hV2, ← s1]; exact heap_alloc_new _ _
 have HBV := zaa.mk (zai e1 e2); have HT := zaa.mk hT; have HD := zaa.mk hd; have HB := zaa.mk hb; have HDI := zaa.mk hdi; have HBI := zaa.mk hbi; have HN := zaa.mk hn; have HNN := zaa.mk hN; have HBY := zaa.mk hby; have HTAB := zaa.mk htab; have HOK := zaa.mk hok; have HK1 := zaa.mk k1; have HK2 := zaa.mk k2; have HE1 := zaa.mk hV1; have HE2 := zaa.mk hV2; have p0 := zaf k1 0; have p1 := zaf k1 1; have p2 := zaf k1 2; have p3 := zaf k1 3; have r0 := zaf k2 0; have r1 := zaf k2 1; simp at p0 p1 p2 p3 r0 r1; have l1 := zaO k1; have l2 := zaO k2; have hu := Tryd.underlying29; have hun := Tryd.underlying26; clear hT hd hb hdi hbi hn hN hby htab hok k1 k2 hV1 hV2 e1 e2 s1; refine callsIn_of_wp_marks Tryd.func13 rfl trivial ?_ rfl
 simp only [Tryd.ntmps13, List.size_toArray, List.length_cons, List.length_nil, Nat.reduceAdd, Nat.reduceSub, Array.replicate_succ, Array.replicate_zero, List.push_toArray, List.append_toArray, List.nil_append, List.cons_append]
 gi_wp2
 refine ⟨trivial, ?_⟩
 change CallsIn Fence.wide 3 Tryd.prog 27 _ ((W.alloc (boxN 51 w1 s.size A kids.length c)).alloc (.cells #[.slice Ad ds.length cd, .slice Ab bs.length cb] 26)) _
 rw [← HE1.out, ← HE2.out]; refine (right_in 3 51 w1 s.size A c kids V2 (AtT.below HBV.out _ HT.out)).mono ?_
 rintro e V3 ⟨rfl, hb3⟩
 rw [HOK.out]; have HB3 := zaa.mk (zai HBV.out hb3); have k1 := zat HK1.out hb3; have k2 := zat HK2.out hb3; have p0 := zaf k1 0; have p1 := zaf k1 1; have p2 := zaf k1 2; have p3 := zaf k1 3; have r0 := zaf k2 0; have r1 := zaf k2 1; simp at p0 p1 p2 p3 r0 r1; have l1 := zaO k1; have l2 := zaO k2; have HK1 := zaa.mk k1; clear k1 k2 hb3
 gi_wp2
 refine ⟨trivial, ?_⟩
 refine (callsIn_wide.2 (names_calls Ad cd ds Ab cb bs V3 (Kd.zaT HD.out HB3.out) (Kd.zaT HB.out HB3.out) HDI.out HBI.out HN.out)).mono ?_
 rintro e V4 ⟨bm, nm, rfl, hH, hlo, hb4⟩
 obtain ⟨E, hE⟩ : ∃ E, E = ents ds bs := ⟨_, rfl⟩; have HFE := zaa.mk (show fewE E by rw [hE]; exact fewE_ents ds bs)
 rw [← hE] at hH; have HE := zaa.mk hE; clear hE; obtain ⟨V, hV⟩ : ∃ V, V = V4.alloc (.cells #[.map (some bm)] 89) := ⟨_, rfl⟩; have e5 : Below V4.heap.size V4 V := by rw [hV]; exact zad (Below.refl _ _) _
 have hs5 : V.heap.size = V4.heap.size + 1 := by rw [hV]; simp
 obtain ⟨Va, hVa⟩ : ∃ X, X = V.alloc (.cells #[.slice none 0 0] 47) := ⟨_, rfl⟩; have hba : Below V.heap.size V Va := by rw [hVa]; exact zad (Below.refl _ _) _
 have hsa : Va.heap.size = V.heap.size + 1 := by rw [hVa]; simp
 have HBW := zaa.mk (zai HB3.out (zai hb4 e5)); have HHV := zaa.mk (hH.below e5); have HM8 := zaa.mk (show V.heap[V4.heap.size]? = some (.cells #[.map (some bm)] 89 (0, 0)) by rw [hV]; exact heap_alloc_new _ _)
 have HOB := zaa.mk (show Va.heap[V.heap.size]? = some (.cells #[.slice none 0 0] 47 (0, 0)) by rw [hVa]; exact heap_alloc_new _ _)
 have HS5 := zaa.mk hs5; have HSA := zaa.mk hsa; have HBA := zaa.mk hba; have k1 := zat HK1.out hb4; have p0 := zaf k1 0; have p1 := zaf k1 1; have p2 := zaf k1 2; have p3 := zaf k1 3; simp at p0 p1 p2 p3; have l1 := zaO k1; have HV := zaa.mk hV; have HVA := zaa.mk hVa; clear r0 r1 l2 HK1 HK2 hH hlo hb4 e5 hs5 hba hsa k1 hV hVa
 gi_wp2
 refine ⟨trivial, ?_⟩
 change CallsIn Fence.wide 3 Tryd.prog 29 _ ((V4.alloc (.cells #[.map (some bm)] 89)).alloc (.cells #[.slice none 0 0] 47)) _
 rw [← HV.out, ← HVA.out]; refine (walkF_in _ _ _ _ _ _ _ _).mono ?_
 rintro e w' ⟨rfl, rfl⟩
 obtain ⟨W1, hW1⟩ : ∃ X, X = Va.alloc (boxN 51 w1 s.size A kids.length c) := ⟨_, rfl⟩; have HNB := zaa.mk (show W1.heap[Va.heap.size]? = some (boxN 51 w1 s.size A kids.length c) by rw [hW1]; exact heap_alloc_new _ _)
 have hb1 : Below Va.heap.size Va W1 := by rw [hW1]; exact zad (Below.refl _ _) _
 have HS1 := zaa.mk (show W1.heap.size = V.heap.size + 2 by rw [hW1, World.size_alloc, HSA.out])
 have HB1 := zaa.mk (zai HBA.out hb1); have HOB1 := zaa.mk (zat HOB.out hb1); rw [← hW1]; clear hW1 hb1 p0 p1 p2 p3 l1
 gi_wp2
 rw [← HS5.out]; have hbx : ∀ b ∈ [V.heap.size], b < W1.heap.size := fun b hb => by rw [List.mem_singleton] at hb; have := HS1.out; omega
 have hIV : ∀ X : World, (∃ v, X.heap[V.heap.size]? = some (.cells #[v] 47 (0, 0)) ∧ ∀ k, v.ownBlock = some k → k < X.heap.size) → Valid [V.heap.size] X := by
  rintro X ⟨v, hv, hl⟩ k ⟨b, hb, u, hu', ho⟩
  rw [List.mem_singleton] at hb; subst hb; rw [zaf hv 0] at hu'; simp at hu'; subst hu'; exact hl k ho
 refine rangeF (w := W1) (gf := 57) (lb := #[.pointer (some ⟨Va.heap.size, 0, none⟩)]) rfl (enters_of Tryd.func57 (by kernel_rfl) rfl)
  (walk_stops V V.heap.size W1.heap.size rfl (by have := HS1.out; omega) [V.heap.size] hbx Va.heap.size (.node 51 w1 s.size A c kids) W1 (AtT.below HBW.out _ HT.out) HB1.out HNB.out)
  (fun h k => Kp.trans h k) (fun W o o' h hc => Kp.record hbx (by have := HS1.out; omega) W o o' h hc) (Below.refl _ _) (fun _ => rfl)
  (fun pre X => (∃ v, X.heap[V.heap.size]? = some (.cells #[v] 47 (0, 0)) ∧ Kd.R k57 57 X V.heap.size (fun k => k ≠ V.heap.size) v (marksA E (pre.map (·.1)))) ∧ Below V.heap.size V X ∧ W1.heap.size + 2 ≤ X.heap.size)
  (fun c pre X => False)
  (fun s A B row hs hg hr => by
   obtain ⟨⟨v, h1, h2⟩, h3, h4⟩ := hs; exact ⟨⟨v, own_cells s A B row h1 hg hr, own_R' h2 hg hr⟩, h3.grown hg h3.size (fun k hk => by have := (hr k hk).1; have := HS1.out; omega), Nat.le_trans h4 hg.size⟩)
  (fun c s A B row hs hg hr => hs)
  (fun pre X h => by
   obtain ⟨⟨v, h1, h2⟩, h3, h4⟩ := h; exact ⟨hIV X ⟨v, h1, Kd.R_lt h2⟩, h4⟩)
  (fun Wq hbq hsq => ⟨⟨_, zat HOB1.out hbq, Kd.R_nil _ _ _ _ _⟩, zai HB1.out hbq, hsq⟩)
  ?round ?done ?stop
 case round =>
  rintro l' pre ⟨⟨⟨nk, nw, nwd, nA, nc, nkids⟩, f, d⟩, hTn⟩ X C hX ⟨⟨v, hov, hrow⟩, hlow, hsz⟩ hp hC
  obtain ⟨xx, hxx⟩ : ∃ xx : Told V, xx = ⟨(AT.node nk nw nwd nA nc nkids, f, d), hTn⟩ := ⟨_, rfl⟩; have HXX := zaa.mk (show xx.1 = (AT.node nk nw nwd nA nc nkids, f, d) by rw [hxx])
  have HC := zaa.mk hC; rw [← hxx] at hp HC; have hmem : xx.1 ∈ (AT.node 51 w1 s.size A c kids).all := mem_prefix (l := pre.map (·.1)) (by rw [List.map_append] at hp; exact hp)
  have HKR := zaa.mk (show 0 ≤ nk ∧ nk ≤ 255 by have := HBY.out xx.1 hmem; rw [HXX.out] at this; exact this)
  have HIF := zaa.mk (show inI f by have := all_in' _ xx.1 hmem; rw [HXX.out] at this; exact this)
  have HLN := zaa.mk (show pre.length < 2000000 by
   have h1 := hp.length_le; have h2 := HNN.out; simp only [List.length_map, List.length_append, List.length_singleton] at h1; omega)
  obtain ⟨ft, hft⟩ : ∃ ft, ft = wrap64 (f + nwd) := ⟨_, rfl⟩; have HIT := zaa.mk (show inI ft by rw [hft]; exact inI_wrap _)
  have HSN := zaa.mk (show marksA E ((pre ++ [xx]).map (·.1)) = marksA E (pre.map (·.1)) ++ markO E nk (f, ft) by
   rw [List.map_append, List.map_singleton, marksA_snoc, HXX.out, hft]
   rfl)
  obtain ⟨X2, hX2⟩ : ∃ X2, X2 = (X.alloc (.cells #[.int .i64 f, .int .i64 ft] 41)).alloc (boxN nk nw nwd nA nkids.length nc) := ⟨_, rfl⟩; have hbx2 : Below X.heap.size X X2 := by rw [hX2]; exact Below.alloc (zad (Below.refl _ _) _) (by simp) _
  have h15 : X2.heap[X.heap.size + 1]? = some (boxN nk nw nwd nA nkids.length nc) := by
   rw [hX2]; have := heap_alloc_new (X.alloc (.cells #[.int .i64 f, .int .i64 ft] 41)) (boxN nk nw nwd nA nkids.length nc)
   simpa using this
  have h14 : X2.heap[X.heap.size]? = some (.cells #[.int .i64 f, .int .i64 ft] 41 (0, 0)) := by
   rw [hX2, Below.heap_alloc _ _ _ (by simp)]
   exact heap_alloc_new X _
  have HBX := zaa.mk hbx2; have H14 := zaa.mk h14; have H15 := zaa.mk h15; have HX2 := zaa.mk hX2; have HHOV := zaa.mk hov; have HROW := zaa.mk hrow; have HLOW := zaa.mk hlow; have HFT := zaa.mk hft; have hus := Tryd.underlying41; have huc := Tryd.underlying95; have hum := Tryd.underlying57; clear hC hp hxx hbx2 h14 h15 hX2 hov hrow hlow hmem; simp only [spanV, AT.val, AT.k, AT.w, AT.wd, AT.A, AT.c, AT.kids]; rw [← hft]; clear hft
  gi_wp2
  rw [← HX2.out]; refine HC.out _ _ ⟨HBX.out.size, fun q o _ ho _ => (HBX.out.block q (Array.getElem?_eq_some_iff.1 ho).1).trans ho⟩ (Kp.of_below hbx (HLOW.out.size) (by omega) HBX.out) ⟨⟨v, zat HHOV.out HBX.out, Kd.zbm HROW.out HBX.out⟩, zai HLOW.out HBX.out, Nat.le_trans hsz HBX.out.size⟩ (fun Wb hKb hIb hcells hszb => ?_)
  obtain ⟨⟨vb, hovb, hrowb⟩, hlowb, hsb⟩ := hIb; have hw14 := hcells _ _ _ _ H14.out; have hw15 := hcells _ _ _ _ H15.out; obtain ⟨Av, cv, e⟩ := Kd.zbo hrowb; subst e; obtain ⟨nn, hnn⟩ : ∃ nn, nn = (marksA E (pre.map (·.1))).length := ⟨_, rfl⟩; rw [← hnn] at hrowb hovb; have HML := zaa.mk (show nn < 2000000 by have h1 := marksA_len E (pre.map (·.1)); have h2 := HLN.out; rw [List.length_map] at h1; omega)
  have HHB := zaa.mk (show Holds Wb bm nm E from HHV.out.keep (hlowb.block _ HHV.out.lt))
  have HTB := zaa.mk (show ColTab Wb by
   obtain ⟨t, fz, h⟩ := HTAB.out.below HBW.out; exact ⟨t, fz, (hlowb.block 0 (Array.getElem?_eq_some_iff.1 h).1).trans h⟩)
  have h8 := (hlowb.block _ (zaO HM8.out)).trans HM8.out; have c8 := zaf h8 0; have m0 := zaf hw14 0; have m1 := zaf hw14 1; have m4 := zaf hw15 0; have mo := zaf hovb 0; have lo := zaO hovb; have l14 := zaO hw14; have l15 := zaO hw15; have l8 := zaO h8; simp at c8 m0 m1 m4 mo; have HOVb := zaa.mk hovb; have HROWb := zaa.mk hrowb; have HLOWb := zaa.mk hlowb; have HKB := zaa.mk hKb; have HSB := zaa.mk hsb; clear hovb hrowb hlowb hKb hsb hw14 hw15 hcells hnn hszb hsz h8; by_cases c6 : nk = 6
  ·have d6 : (nk == 6) = true := beq_iff_eq.mpr c6
   obtain ⟨cc, hcc⟩ : ∃ cc, cc = (zbq E (f, ft)).getD (0, 0) := ⟨_, rfl⟩; have hlk := (HHB.out.below (zad (Below.refl _ _) (.cells #[.int .i64 0, .int .i64 0] 95))).look (f, ft) HIF.out HIT.out; rw [← hcc] at hlk; have HCO := zaa.mk (show colOf E nk (f, ft) = cc by unfold colOf; rw [if_pos c6, hcc])
   have HCF := zaa.mk (show 0 ≤ cc.1 ∧ cc.1 ≤ 8 by rw [hcc]; exact firstOf_few HFE.out _)
   clear hcc c6; obtain ⟨k1, k2⟩ := cc; simp only at hlk HCF; by_cases c0 : k1 = 0
   ·have d0 : (k1 != 0) = false := by simp [c0]
    have HMN := zaa.mk (show markO E nk (f, ft) = [] by unfold markO; rw [if_pos (by rw [HCO.out]; exact c0)])
    clear c0
    gi_wp2
    have hbc := zad (Below.refl Wb.heap.size Wb) (.cells #[.int .i64 k1, .int .i64 k2] 95); exact ⟨keeps_below hbc, HKB.out.trans (Kp.of_below hbx HLOWb.out.size (by have := HSB.out; omega) hbc), ⟨_, zat HOVb.out hbc, by rw [HSN.out, HMN.out, List.append_nil]; exact Kd.zbm HROWb.out hbc⟩, zai HLOWb.out hbc, Nat.le_trans HSB.out hbc.size⟩
   ·have d0 : (k1 != 0) = true := by simp [c0]
    have HMN := zaa.mk (show markO E nk (f, ft) = [⟨⟨f, ft⟩, k1 - 1, k2⟩] by unfold markO; rw [if_neg (by rw [HCO.out]; exact c0), HCO.out])
    have hk0 := HCF.out.1; have hk8 := HCF.out.2; have hbc := zad (Below.refl Wb.heap.size Wb) (.cells #[.int .i64 k1, .int .i64 k2] 95); obtain ⟨g, cap, w5, hrun, how, hfin⟩ := mark_app f ft (k1 - 1) k2 (B := W1.heap.size) (by have := HS1.out; omega) (by have := HSB.out; omega) HOVb.out HROWb.out HLOWb.out hbc HML.out
    simp only [World.size_alloc] at hrun; have mo5 := zaf how 0; have fo5 := zab how 0; have lo5 := zaO how; simp at mo5; have HFIN := zaa.mk hfin; clear c0 hbc hfin how
    gi_wp2_with (gi_at_builtin; refine wpListIn_append_run rfl _ _ _ rfl hrun ?_)
    obtain ⟨f1, f2, f3, f4, f5⟩ := HFIN.out _ rfl; exact ⟨f1, HKB.out.trans f2, by rw [HSN.out, HMN.out]; exact f3, f4, Nat.le_trans HSB.out f5⟩
  ·have d6 : (nk == 6) = false := beq_eq_false_iff_ne.mpr c6
   obtain ⟨kn, hkn⟩ : ∃ kn : Nat, nk = (kn : Int) := ⟨nk.toNat, by have := HKR.out; omega⟩
   have hk255 : kn ≤ 255 := by have := HKR.out; omega
   subst hkn; by_cases c41 : kn < 41
   ·have hct := HTB.out.cell kn c41
    have d41 : (kn : Int) < 41 := by omega
    obtain ⟨k1, hk1⟩ : ∃ k1, k1 = colTab.getD kn 0 := ⟨_, rfl⟩; have HCO := zaa.mk (show colOf E (kn : Int) (f, ft) = (k1, 0) by unfold colOf; rw [if_neg c6, if_pos d41, Int.toNat_natCast, hk1])
    have HCF := zaa.mk (show 0 ≤ k1 ∧ k1 ≤ 8 by rw [hk1]; exact colTab_few kn)
    rw [← hk1] at hct; have l00 : 0 < Wb.heap.size := by omega
    clear hk1 c6; by_cases c0 : k1 = 0
    ·have d0 : (k1 != 0) = false := by simp [c0]
     have HMN := zaa.mk (show markO E (kn : Int) (f, ft) = [] by unfold markO; rw [if_pos (by rw [HCO.out]; exact c0)])
     clear c0
     gi_wp2
     have hbc := zad (Below.refl Wb.heap.size Wb) (.cells #[.int .i64 k1, .int .i64 0] 95); exact ⟨keeps_below hbc, HKB.out.trans (Kp.of_below hbx HLOWb.out.size (by have := HSB.out; omega) hbc), ⟨_, zat HOVb.out hbc, by rw [HSN.out, HMN.out, List.append_nil]; exact Kd.zbm HROWb.out hbc⟩, zai HLOWb.out hbc, Nat.le_trans HSB.out hbc.size⟩
    ·have d0 : (k1 != 0) = true := by simp [c0]
     have HMN := zaa.mk (show markO E (kn : Int) (f, ft) = [⟨⟨f, ft⟩, k1 - 1, 0⟩] by unfold markO; rw [if_neg (by rw [HCO.out]; exact c0), HCO.out])
     have hk0 := HCF.out.1; have hk8 := HCF.out.2; have hbc := zad (Below.refl Wb.heap.size Wb) (.cells #[.int .i64 k1, .int .i64 0] 95); obtain ⟨g, cap, w5, hrun, how, hfin⟩ := mark_app f ft (k1 - 1) 0 (B := W1.heap.size) (by have := HS1.out; omega) (by have := HSB.out; omega) HOVb.out HROWb.out HLOWb.out hbc HML.out
     simp only [World.size_alloc] at hrun; have mo5 := zaf how 0; have fo5 := zab how 0; have lo5 := zaO how; simp at mo5; have HFIN := zaa.mk hfin; clear c0 hbc hfin how
     gi_wp2_with (gi_at_builtin; refine wpListIn_append_run rfl _ _ _ rfl hrun ?_)
     obtain ⟨f1, f2, f3, f4, f5⟩ := HFIN.out _ rfl; exact ⟨f1, HKB.out.trans f2, by rw [HSN.out, HMN.out]; exact f3, f4, Nat.le_trans HSB.out f5⟩
   ·have d41 : ¬ (kn : Int) < 41 := by omega
    have HMN := zaa.mk (show markO E (kn : Int) (f, ft) = [] by unfold markO colOf; rw [if_neg c6, if_neg d41]; rfl)
    clear c6
    gi_wp2
    have hbc := zad (Below.refl Wb.heap.size Wb) (.cells #[.int .i64 0, .int .i64 0] 95); exact ⟨keeps_below hbc, HKB.out.trans (Kp.of_below hbx HLOWb.out.size (by have := HSB.out; omega) hbc), ⟨_, zat HOVb.out hbc, by rw [HSN.out, HMN.out, List.append_nil]; exact Kd.zbm HROWb.out hbc⟩, zai HLOWb.out hbc, Nat.le_trans HSB.out hbc.size⟩
 case done =>
  rintro xs X hS ⟨⟨v, hov, hrow⟩, hlow, hsz⟩ hD
  have HD := zaa.mk hD; have HROW := zaa.mk hrow; have ko := zaf hov 0; simp at ko; clear hD hrow
  gi_wp2
  refine ⟨by simp, .inl ⟨_, _, rfl, run_takeDeferred HD.out, ?_⟩⟩
  refine ⟨_, results_tmp2 rfl _ _ _, _, rfl, ?_, ?_⟩
  ·rw [← hS, ← HE.out]
   exact Kd.zbT (Kd.zbz (own_R' (B := 0) HROW.out (grownBy_putObj' X W1.heap.size (.deferred none)) (fun r hr => by cases hr; exact ⟨Nat.zero_le _, _, HD.out, rfl⟩)) HBW.out.size) (fun _ _ => trivial)
  ·exact zai HBW.out (hlow.trans (below_putObj X _ (by have := HS1.out; omega)))
 case stop =>
  rintro c pre X hS hf hD
  exact hf.elim
end
open Go.ChangeShapes Go.WideShapes
instance : Inhabited S41 := ⟨z41⟩
instance : Inhabited S72 := ⟨z72⟩
instance : Inhabited S43 := ⟨z43⟩
theorem colTab_of {W : World} (h : Lib.TabIs Tryd.prog W "glossator/classify.colours" .i64 colTab) : ColTab W := by
 unfold Lib.TabIs World.var? at h
 rw [show Tryd.prog.globalNamed "glossator/classify.colours" = some 0 by kernel_rfl, Option.bind_some] at h
 cases hb : W.heap[0]? with
 | none => rw [hb] at h; cases h
 | some o =>
  rw [hb] at h; cases o with
  | cells cs t fz =>
   simp only [Option.some.injEq] at h; exact ⟨t, fz, by rw [hb, h]⟩
  | _ => cases h
section
attribute [local go_sem] Oper.semAt_some
theorem classOf_bad (s : ByteArray) (k w1 wd : Int) (A : Option Addr) (c : Nat) (kids : List AT) (x0 x1 : Value) (W : World) (hT : AtT W (.node k w1 wd A c kids))
  (hbad : ¬ (okB (AT.node k w1 wd A c kids).erase = true ∧ k = 51 ∧ wd = (s.size : Int))) :
  Calls Tryd.prog 13 #[.string s, .agg #[.int .u8 k, .int .u8 w1, .int .i64 wd, .slice A kids.length c], .agg #[x0, x1]] W fun e W' => e = .returned (.tuple #[.slice none 0 0, .int .i64 150]) ∧ Below W.heap.size W W' := by
 refine (callsIn_wide (n := 4)).1 ?_
 obtain ⟨V1, hV1⟩ : ∃ V, V = W.alloc (boxN k w1 wd A kids.length c) := ⟨_, rfl⟩; obtain ⟨V2, hV2⟩ : ∃ V, V = V1.alloc (.cells #[x0, x1] 26) := ⟨_, rfl⟩; have e1 : Below W.heap.size W V1 := by rw [hV1]; exact zad (Below.refl _ _) _
 have e2 : Below V1.heap.size V1 V2 := by rw [hV2]; exact zad (Below.refl _ _) _
 have k1 : V2.heap[W.heap.size]? = some (boxN k w1 wd A kids.length c) := zat (by rw [hV1]; exact heap_alloc_new _ _) e2
 have HBV := zaa.mk (zai e1 e2); have HT := zaa.mk hT; have HK1 := zaa.mk k1; have HE1 := zaa.mk hV1; have HE2 := zaa.mk hV2; have hu := Tryd.underlying29; have hun := Tryd.underlying26; clear hT k1 hV1 hV2 e1 e2; refine callsIn_of_wp_marks Tryd.func13 rfl trivial ?_ rfl
 simp only [Tryd.ntmps13, List.size_toArray, List.length_cons, List.length_nil, Nat.reduceAdd, Nat.reduceSub, Array.replicate_succ, Array.replicate_zero, List.push_toArray, List.append_toArray, List.nil_append, List.cons_append]; have HBAD := zaa.mk hbad; clear hbad
 gi_wp2
 refine ⟨trivial, ?_⟩
 change CallsIn Fence.wide 3 Tryd.prog 27 _ ((W.alloc (boxN k w1 wd A kids.length c)).alloc (.cells #[x0, x1] 26)) _
 rw [← HE1.out, ← HE2.out]; refine (right_in 3 k w1 wd A c kids V2 (AtT.below HBV.out _ HT.out)).mono ?_
 rintro e V3 ⟨rfl, hb3⟩
 have HB3 := zaa.mk (zai HBV.out hb3); have k1 := zat HK1.out hb3; have p0 := zaf k1 0; have p2 := zaf k1 2; simp at p0 p2; have l1 := zaO k1; clear k1 hb3; cases hok : okB (AT.node k w1 wd A c kids).erase with
 | false =>
  clear hok
  gi_wp2
  refine ⟨_, results_tmp2 rfl _ _ _, rfl, HB3.out⟩
 | true =>
  have HOK := zaa.mk hok; clear hok; by_cases h51 : k = 51
  ·have d51 : (k != 51) = false := by simp [h51]
   have dw : (wd != (s.size : Int)) = true := by
    have h := HBAD.out; simp only [bne_iff_ne, ne_eq]; exact fun e => h ⟨HOK.out, h51, e⟩
   clear h51
   gi_wp2
   refine ⟨_, results_tmp2 rfl _ _ _, rfl, HB3.out⟩
  ·have d51 : (k != 51) = true := by simp [h51]
   clear h51
   gi_wp2
   refine ⟨_, results_tmp2 rfl _ _ _, rfl, HB3.out⟩
end
def kindR (k : Int) : Int := (if k < 41 then colTab.getD k.toNat 0 else 0) - 1
theorem kind_at : ∀ k : Fin 256, zas.f 5 (k.1 : Int) = some (kindR k.1) := by decide
theorem kind_ev (k : Int) (h0 : 0 ≤ k) (h1 : k ≤ 255) : Ev (fun m => zas.f m k) (kindR k) := by
 have h := kind_at ⟨k.toNat, by omega⟩
 simp only at h; rw [show ((k.toNat : Nat) : Int) = k by omega] at h
 exact Ev.of (fun m => zas.mono k m) h
theorem as_f (k : Int) : zbF.f k = some (calN k - 1) := by
 unfold zbF.f calN
 split
 ·rfl
 ·split <;> rfl
def outOf : Option (Int × Int) → Int × Int
 | some c => (c.1 - 1, c.2)
 | none => (-1, 0)
theorem firstOf_cons (e : Ent) (L : List Ent) (s : Int × Int) : zbq (e :: L) s = if e.1 = s then some e.2 else zbq L s := by
 unfold zbq
 rw [List.find?_cons]; by_cases c : e.1 = s
 ·simp [c]
 ·have : (e.1 == s) = false := by simpa using c
  rw [this, if_neg c]
def zbS (E : List Ent) (xs : List (S29 × Int × Int)) : List S57 := xs.flatMap fun x => markO E x.1.f0 (x.2.1, wrap64 (x.2.1 + x.1.f2))
theorem marksA_er (E : List Ent) (xs : List (AT × Int × Int)) : marksA E xs = zbS E (xs.map er) := by
 unfold marksA zbS
 rw [List.flatMap_map]
 congr 1
 funext x
 unfold er spanA
 simp only; rw [show x.1.erase.f0 = x.1.k by rw [erase_f], show x.1.erase.f2 = x.1.wd by rw [erase_f]]
theorem markO_name (E : List Ent) (hE : fewE E) (hn : ∀ e ∈ E, 1 ≤ e.2.1) (s : Int × Int) : markO E 6 s = if (outOf (zbq E s)).1 ≥ 0 then [⟨⟨s.1, s.2⟩, (outOf (zbq E s)).1, (outOf (zbq E s)).2⟩] else [] := by
 unfold markO colOf
 rw [if_pos rfl]; cases h : zbq E s with
 | none => simp [outOf]
 | some c =>
  have h1 : 1 ≤ c.1 := by
   unfold zbq at h
   obtain ⟨e, he, rfl⟩ := Option.map_eq_some_iff.1 h; exact hn e (List.mem_of_find?_eq_some he)
  have h2 : (outOf (some c)).1 ≥ 0 := by show c.1 - 1 ≥ 0; omega
  rw [Option.getD_some, if_neg (by omega), if_pos h2]
  rfl
theorem markO_kind (E : List Ent) (k : Int) (h : k ≠ 6) (s : Int × Int) : markO E k s = if kindR k ≥ 0 then [⟨⟨s.1, s.2⟩, kindR k, 0⟩] else [] := by
 unfold markO colOf kindR
 rw [if_neg h]; have h1 := (colTab_few k.toNat).1; by_cases c : k < 41
 ·rw [if_pos c, if_pos c]
  simp only; by_cases d : colTab.getD k.toNat 0 = 0
  ·rw [if_pos d, if_neg (by omega)]
  ·rw [if_neg d, if_pos (by omega)]
 ·rw [if_neg c, if_neg c]
  simp
theorem ents_pos (ds : List S72) (bs : List S43) : ∀ e ∈ ents ds bs, 1 ≤ e.2.1 := by
 intro e he
 have hc : ∀ k, 6 ≤ calN k := fun k => by unfold calN; split <;> (try split) <;> omega
 rcases List.mem_append.1 he with h | h
 ·obtain ⟨d, _, rfl⟩ := List.mem_map.1 h
  have := hc d.f1; simp only [entD]; omega
 ·obtain ⟨d, _, rfl⟩ := List.mem_map.1 h
  unfold entB
  simp only
  split
  ·have := hc (rd_T72 ds d.f1).f1
   simp only; omega
  ·simp
def fine (x : S29 × Int × Int) : Prop := 0 ≤ x.1.f0 ∧ x.1.f0 ≤ 255 ∧ (x.1.f3 ≠ [] → 41 ≤ x.1.f0)
mutual
def leafsT : S29 → Prop
 | ⟨k, w, wd, kids⟩ => (kids ≠ [] → 50 < k) ∧ leafsL kids
def leafsL : List S29 → Prop
 | [] => True
 | t :: r => leafsT t ∧ leafsL r
end
mutual
theorem may_leafs : ∀ (t : S29) (at_ c : Int), (mayN t at_ c).2 = true → leafsT t
 | ⟨k, w, wd, kids⟩, at_, c, h => by
  simp only [mayN] at h; by_cases t1 : wrap64 (c + 1) > 1048576
  ·rw [if_pos t1] at h; cases h
  rw [if_neg t1] at h; by_cases t2 : at_ > 65536
  ·rw [if_pos t2] at h; cases h
  rw [if_neg t2] at h; by_cases t3 : k ≤ 50
  ·rw [if_pos t3] at h
   obtain ⟨rfl, _⟩ := leafB_facts h; simp only [leafsT, leafsL, and_true]; exact fun h => absurd rfl h
  rw [if_neg t3] at h; by_cases t4 : k > 68
  ·rw [if_pos t4] at h; cases h
  rw [if_neg t4] at h; by_cases t5 : w = 0
  case neg => rw [if_pos (show w ≠ 0 from t5)] at h; cases h
  rw [if_neg (show ¬ (w ≠ 0) from fun h => h t5)] at h
  by_cases t6 : k = 51 ∧ at_ > 1
  ·rw [if_pos t6] at h; cases h
  rw [if_neg t6] at h
  revert h
  cases hm : mayL kids at_ (wrap64 (c + 1)) 0 with
  | mk c' o =>
   cases o with
   | none => intro h; cases h
   | some s =>
    intro h
    simp only [leafsT]; exact ⟨fun _ => by omega, mayL_leafs kids at_ _ 0 c' s hm⟩
theorem mayL_leafs : ∀ (l : List S29) (at_ c sum c' s : Int), mayL l at_ c sum = (c', some s) → leafsL l
 | [], at_, c, sum, c', s, h => by simp only [leafsL]
 | t :: r, at_, c, sum, c', s, h => by
  simp only [mayL] at h; cases hm : mayN t (wrap64 (at_ + 1)) c with
  | mk c2 b =>
   rw [hm] at h; cases b with
   | false => simp at h
   | true =>
    simp only at h; simp only [leafsL]; exact ⟨may_leafs t _ c (by rw [hm]), mayL_leafs r at_ c2 _ c' s h⟩
end
mutual
theorem preT_fine : ∀ (t : S29) (f d : Int) (x : S29 × Int × Int), x ∈ preT t f d → leafsT t → byteT t → fine x
 | ⟨k, w, wd, l⟩, f, d, x, h, hw, hb => by
  simp only [preT, List.mem_cons] at h; simp only [leafsT] at hw; simp only [byteT] at hb; rcases h with rfl | h
  ·exact ⟨hb.1.1, hb.1.2, fun hl => by have := hw.1 hl; show 41 ≤ k; omega⟩
  ·exact preTL_fine l f d x h hw.2 hb.2.2
theorem preTL_fine : ∀ (l : List S29) (f d : Int) (x : S29 × Int × Int), x ∈ preTL l f d → leafsL l → byteL l → fine x
 | [], f, d, x, h, _, _ => by simp [preTL] at h
 | t :: r, f, d, x, h, hw, hb => by
  simp only [preTL, List.mem_append] at h; simp only [leafsL] at hw; simp only [byteL] at hb; rcases h with h | h
  ·exact preT_fine t _ _ x h hw.1 hb.1
  ·exact preTL_fine r _ _ x h hw.2 hb.2
end
theorem allT_fine {t : S29} (hb : byteT t) : ∀ x ∈ allT t, fine x := by
 intro x h
 unfold allT at h
 cases ho : okB t with
 | false => rw [ho] at h; simp at h
 | true =>
  rw [ho, if_pos rfl] at h; exact preT_fine t 0 0 x h (may_leafs t 1 0 ho) hb
def okc (s : ByteArray) (t : S29) : Bool := okB t && (t.f0 == 51 && t.f2 == (s.size : Int))
def marksOf (s : ByteArray) (t : S29) (ds : List S72) (bs : List S43) : List S57 := if okc s t = true then zbS (ents ds bs) (allT t) else []
def errOf (s : ByteArray) (t : S29) : Int := if okc s t = true then 0 else 150
theorem all_ev22 (t : S29) (hb : byteT t) (ht : tsize t ≤ 2000000) : Ev (fun m => zbJ.f m t.f0 t.f1 t.f2 t.f3) ((allT t).map seenS) := by
 have e : (⟨t.f0, t.f1, t.f2, t.f3⟩ : S29) = t := eta29 t; have hr := right_ref t.f0 t.f1 t.f2 t.f3 (by rw [e]; exact hb)
 rw [e] at hr; refine Ev.congr (fun m => by unfold zbJ.f; rfl) (Ev.bind (f := fun _ (r : Bool) => if r = true then (if tsize ⟨t.f0, t.f1, t.f2, t.f3⟩ ≤ 2000000 then some ((preT ⟨t.f0, t.f1, t.f2, t.f3⟩ 0 0).map seenS) else none) else some []) hr (Ev.const ?_))
 rw [e, if_pos ht]; unfold allT
 cases okB t <;> simp
theorem marksS_len (E : List Ent) (xs : List (S29 × Int × Int)) : (zbS E xs).length ≤ xs.length := by
 unfold zbS
 induction xs with
 | nil => simp
 | cons x r ih =>
  rw [List.flatMap_cons, List.length_append, List.length_cons]; have := markO_len E x.1.f0 (x.2.1, wrap64 (x.2.1 + x.1.f2)); omega
theorem marksOf_len (s : ByteArray) (t : S29) (ds : List S72) (bs : List S43) : (marksOf s t ds bs).length ≤ tsize t := by
 unfold marksOf
 split
 ·exact Nat.le_trans (marksS_len _ _) (allT_length t)
 ·exact Nat.zero_le _
theorem classOf_calls (s : ByteArray) (k w1 wd : Int) (A : Option Addr) (c : Nat) (kids : List AT) (Ad : Option Addr) (cd : Nat) (ds : List S72) (Ab : Option Addr) (cb : Nat) (bs : List S43) (W : World) (hT : AtT W (.node k w1 wd A c kids)) (hd : Kd.C k72 W Ad ds.length ds) (hb : Kd.C k43 W Ab bs.length bs) (hdi : inDs ds) (hbi : inBs bs) (hn : ds.length + bs.length ≤ 1000000)
  (hN : tsize (AT.node k w1 wd A c kids).erase ≤ 2000000) (hby : byteT (AT.node k w1 wd A c kids).erase) (htab : ColTab W) :
  Calls Tryd.prog 13 #[.string s, .agg #[.int .u8 k, .int .u8 w1, .int .i64 wd, .slice A kids.length c], .agg #[.slice Ad ds.length cd, .slice Ab bs.length cb]] W fun e W' => ∃ v, e = .returned (.tuple #[v, .int .i64 (errOf s (AT.node k w1 wd A c kids).erase)]) ∧ Kd.R k57 57 W' W.heap.size (fun _ => True) v (marksOf s (AT.node k w1 wd A c kids).erase ds bs) ∧ Below W.heap.size W W' := by
 have h0 : (AT.node k w1 wd A c kids).erase.f0 = k := by rw [erase_f]; rfl
 have h2 : (AT.node k w1 wd A c kids).erase.f2 = wd := by rw [erase_f]; rfl
 unfold errOf marksOf
 by_cases h : okB (AT.node k w1 wd A c kids).erase = true ∧ k = 51 ∧ wd = (s.size : Int)
 ·have ho : okc s (AT.node k w1 wd A c kids).erase = true := by unfold okc; rw [h0, h2, h.1, h.2.1, h.2.2]; simp
  rw [if_pos ho, if_pos ho]; obtain ⟨hok, rfl, rfl⟩ := h; have hg := classOf_good s w1 A c kids Ad cd ds Ab cb bs W hT hd hb hdi hbi hn hok (Nat.le_trans (all_length _) hN) (fun x hx => by
   have := allT_fine hby (er x) (by rw [← er_all]; exact List.mem_map_of_mem hx)
   unfold fine er at this
   rw [show x.1.erase.f0 = x.1.k by rw [erase_f]] at this
   exact ⟨this.1, this.2.1⟩) htab
  rw [marksA_er, er_all] at hg; exact hg
 ·have ho : ¬ okc s (AT.node k w1 wd A c kids).erase = true := by
   unfold okc
   rw [h0, h2]; simp only [Bool.and_eq_true, beq_iff_eq]; exact h
  rw [if_neg ho, if_neg ho]; refine (classOf_bad s k w1 wd A c kids _ _ W hT h).mono ?_
  rintro e W' ⟨rfl, hb⟩
  exact ⟨_, rfl, Kd.R_nil _ _ _ _ _, hb⟩
theorem msame_l0 (r : List S57) : ∀ (q : List S57), q.length + r.length ≤ 2000000 → Ev (fun m => za5.l0 m (q ++ r) (q ++ r) (q.length : Int)) true := by
 induction r with
 | nil => intro q h; exact Ev.step (f := fun _ => some true) (fun m => by rw [za5.l0, if_neg (by simp)]) (Ev.now _)
 | cons x r ih =>
  intro q h
  simp only [List.length_cons] at h; have h3 := ih (q ++ [x]) (by simp; omega)
  rw [List.append_assoc, List.singleton_append] at h3; have hl : (q ++ x :: r).length = q.length + r.length + 1 := by simp; omega
  have hw : wrap64 ((q.length : Int) + 1) = ((q ++ [x]).length : Int) := by rw [wrap_id (by omega) (by omega)]; simp
  refine Ev.step (fun m => ?_) h3
  rw [za5.l0, if_pos (by rw [hl]; omega), if_pos (by omega), if_pos (by rw [hl]; omega), if_neg (by simp), hw]
theorem msame_refl (l : List S57) (h : l.length ≤ 2000000) : Ev (fun m => za5.f m l l) true := by
 have := msame_l0 l [] (by simpa using h)
 exact Ev.congr (fun m => by unfold za5.f; rw [if_pos rfl]) (by simpa using this)
theorem classOf_callsL (s : ByteArray) (k w1 wd : Int) (A : Option Addr) (c : Nat) (l : List S29) (Ad : Option Addr) (cd : Nat) (ds : List S72) (Ab : Option Addr) (cb : Nat) (bs : List S43) (W : World) (hr : Kd.C k29 W A l.length l) (hc : l.length ≤ c) (hd : Kd.C k72 W Ad ds.length ds) (hb : Kd.C k43 W Ab bs.length bs) (hdi : inDs ds) (hbi : inBs bs) (hn : ds.length + bs.length ≤ 1000000)
  (hN : tsize ⟨k, w1, wd, l⟩ ≤ 2000000) (hby : byteT ⟨k, w1, wd, l⟩) (htab : ColTab W) :
  Calls Tryd.prog 13 #[.string s, .agg #[.int .u8 k, .int .u8 w1, .int .i64 wd, .slice A l.length c], .agg #[.slice Ad ds.length cd, .slice Ab bs.length cb]] W fun e W' => ∃ v, e = .returned (.tuple #[v, .int .i64 (errOf s ⟨k, w1, wd, l⟩)]) ∧ Kd.R k57 57 W' W.heap.size (fun _ => True) v (marksOf s ⟨k, w1, wd, l⟩ ds bs) ∧ Below W.heap.size W W' := by
 obtain ⟨kids, he, hT⟩ := exists_AT W _ ⟨k, w1, wd, l⟩ (Nat.lt_succ_self _) A c hc hr; simp only at he hT; subst he; have h := classOf_calls s k w1 wd A c kids Ad cd ds Ab cb bs W hT hd hb hdi hbi hn (by simpa only [AT.erase] using hN) (by simpa only [AT.erase] using hby) htab
 simp only [AT.erase] at h; rw [zbp]; exact h
theorem drop_ent {α : Type} {L : List α} {i : Nat} {x : α} (h : L[i]? = some x) : L.drop i = x :: L.drop (i + 1) := by
 obtain ⟨hi, e⟩ := List.getElem?_eq_some_iff.1 h; rw [List.drop_eq_getElem_cons hi, e]
theorem rname_calls (Ad : Option Addr) (cd : Nat) (ds : List S72) (Ab : Option Addr) (cb : Nat) (bs : List S43) (a b tv mv : Int) (W : World) (hd : Kd.C k72 W Ad ds.length ds) (hb : Kd.C k43 W Ab bs.length bs) (hn : ds.length + bs.length ≤ 1000000) (hr : outOf (zbq (ents ds bs) (a, b)) = (tv, mv)) :
  Calls Tryd.prog 26 #[.agg #[.slice Ad ds.length cd, .slice Ab bs.length cb], .agg #[.int .i64 a, .int .i64 b]] W fun e W' => e = .returned (.tuple #[.int .i64 tv, .int .i64 mv]) ∧ Below W.heap.size W W' := by
 obtain ⟨X1, hX1⟩ : ∃ V, V = W.alloc (.cells #[.slice Ad ds.length cd, .slice Ab bs.length cb] 26) := ⟨_, rfl⟩; obtain ⟨X, hX⟩ : ∃ V, V = X1.alloc (.cells #[.int .i64 a, .int .i64 b] 41) := ⟨_, rfl⟩; have hs1 : X1.heap.size = W.heap.size + 1 := by rw [hX1]; simp
 have b1 : Below W.heap.size W X1 := by rw [hX1]; exact zad (Below.refl _ _) _
 have b2 : Below X1.heap.size X1 X := by rw [hX]; exact zad (Below.refl _ _) _
 have HBX := zaa.mk (show Below W.heap.size W X from b1.trans (b2.mono b1.size))
 have HK1 := zaa.mk (show X.heap[W.heap.size]? = some (.cells #[.slice Ad ds.length cd, .slice Ab bs.length cb] 26 (0, 0)) from zat (by rw [hX1]; exact heap_alloc_new _ _) b2)
 have HK2 := zaa.mk (show X.heap[W.heap.size + 1]? = some (.cells #[.int .i64 a, .int .i64 b] 41 (0, 0)) by rw [hX, ← hs1]; exact heap_alloc_new _ _)
 have HD := zaa.mk (Kd.zaT hd HBX.out); have HB := zaa.mk (Kd.zaT hb HBX.out); have HN := zaa.mk hn; have HR := zaa.mk (show outOf (zbq (ds.map entD ++ bs.map (entB ds)) (a, b)) = (tv, mv) from hr)
 have hum := Tryd.underlying26; have hud := Tryd.underlying72; have hub := Tryd.underlying43; have hus := Tryd.underlying41; clear hd hb hn hr hs1 b1 b2; have HCELL := zaa.mk (fun (w : World) (hw : Below X.heap.size X w) => (show (w.cell? ⟨W.heap.size, 0, none⟩ = some (.slice Ad ds.length cd) ∧ w.cell? ⟨W.heap.size, 1, none⟩ = some (.slice Ab bs.length cb)) ∧ w.cell? ⟨W.heap.size + 1, 0, none⟩ = some (.int .i64 a) ∧ w.cell? ⟨W.heap.size + 1, 1, none⟩ = some (.int .i64 b) from by
  have g1 := zat HK1.out hw; have g2 := zat HK2.out hw; have a0 := zaf g1 0; have a1 := zaf g1 1; have d0 := zaf g2 0; have d1 := zaf g2 1; simp at a0 a1 d0 d1; exact ⟨⟨a0, a1⟩, d0, d1⟩))
 go_enter Tryd.func26, Tryd.ntmps26
 go_upto_region 1 with (fail)
 change Code.wp Tryd.prog _ _ _ ((W.alloc (.cells #[.slice Ad ds.length cd, .slice Ab bs.length cb] 26)).alloc (.cells #[.int .i64 a, .int .i64 b] 41))
 rw [← hX1, ← hX]; clear hX hX1; go_wp2
 go_loopg [6] ds.length (fun kq v6 wr => ∃ i : Nat, v6 = .int .i64 i ∧ i ≤ ds.length ∧ zaa (kq = ds.length - i) ∧ zaa (Below X.heap.size X wr) ∧ zaa (outOf (zbq ((ds.drop i).map entD ++ bs.map (entB ds)) (a, b)) = (tv, mv)))
 case atStart => exact ⟨0, rfl, Nat.zero_le _, ⟨rfl⟩, ⟨Below.refl _ _⟩, HR⟩
 case round =>
  obtain ⟨i, rfl, hi, HK, HW, HF⟩ := hrel; have hn := HN.out; obtain ⟨⟨a0, a1⟩, d0, d1⟩ := HCELL.out wr HW.out; by_cases hlt : i < ds.length
  ·obtain ⟨x, hx⟩ : ∃ x, ds[i]? = some x := ⟨_, List.getElem?_eq_getElem hlt⟩
   obtain ⟨ad, eA, p0, p1, p2, p3⟩ := at_T72 (Kd.zaT HD.out HW.out) (i : Int) (by omega) (by omega)
   subst eA; have hrd : rd_T72 ds (i : Int) = x := by
    unfold rd_T72
    rw [Int.toNat_natCast, List.getD_eq_getElem?_getD, hx]
    rfl
   rw [hrd, Int.toNat_natCast] at p0 p1 p2 p3; have HS := zaa.mk (show outOf (if (entD x).1 = (a, b) then some (entD x).2 else zbq ((ds.drop (i + 1)).map entD ++ bs.map (entB ds)) (a, b)) = (tv, mv) by have h := HF.out; rw [drop_ent hx, List.map_cons, List.cons_append, firstOf_cons] at h; exact h)
   clear hx hrd; obtain ⟨⟨x0, x1⟩, x2, x3⟩ := x; simp only at p0 p1 p2 p3; by_cases c0 : x0 = a ∧ x1 = b
   ·have HV := zaa.mk (show (calN x2 - 1, if x3 = true then (5 : Int) else 1) = (tv, mv) by have h := HS.out; rw [if_pos (by unfold entD; simp [c0.1, c0.2])] at h; exact h)
    have e1 : (x0 == a) = true := by simp [c0.1]
    have e2 : (x1 == b) = true := by simp [c0.2]
    have has := as_f x2; clear c0; go_upto_region 4 with (fail)
    go_quiet (fail)
    have HBQ := zaa.mk (show Below wr.heap.size wr (wr.drewN nq) from ⟨rfl, rfl, rfl, Nat.le_refl _, fun _ _ => rfl⟩)
    cases x3 with
    | true =>
     go_wp2_with (go_at_call 52; refine (zbF.calls x2 (calN x2 - 1) _ has).mono ?_; rintro e w7 ⟨rfl, hd7⟩; have HB7 := zaa.mk hd7.below; clear hd7)
     refine bodyPost_ret (results_tmp2 rfl _ _ _) rfl ?_
     have h := HV.out; simp only [if_true, Prod.mk.injEq] at h; exact ⟨by rw [← h.1, ← h.2]; rfl, HBX.out.trans ((HW.out.trans ((HBQ.out.mono HW.out.size).trans (HB7.out.mono (Nat.le_trans HW.out.size HBQ.out.size)))).mono HBX.out.size)⟩
    | false =>
     go_wp2_with (go_at_call 52; refine (zbF.calls x2 (calN x2 - 1) _ has).mono ?_; rintro e w7 ⟨rfl, hd7⟩; have HB7 := zaa.mk hd7.below; clear hd7)
     refine bodyPost_ret (results_tmp2 rfl _ _ _) rfl ?_
     have h := HV.out; simp only [Bool.false_eq_true, if_false, Prod.mk.injEq] at h; exact ⟨by rw [← h.1, ← h.2]; rfl, HBX.out.trans ((HW.out.trans ((HBQ.out.mono HW.out.size).trans (HB7.out.mono (Nat.le_trans HW.out.size HBQ.out.size)))).mono HBX.out.size)⟩
   ·have HS2 := zaa.mk (show outOf (zbq ((ds.drop (i + 1)).map entD ++ bs.map (entB ds)) (a, b)) = (tv, mv) by have h := HS.out; rw [if_neg (by unfold entD; simp only [Prod.mk.injEq]; exact c0)] at h; exact h)
    by_cases c1 : x0 = a
    ·have e1 : (x0 == a) = true := by simp [c1]
     have e2 : (x1 == b) = false := by simp; exact fun h => c0 ⟨c1, h⟩
     clear c0 c1; go_upto_region 4 with (fail)
     go_quiet (fail)
     go_wp2
     go_roundg (ds.length - (i + 1))
     case measure => have := HK.out; omega
     case rel => exact ⟨i + 1, by go_num, by omega, ⟨rfl⟩, ⟨HW.out.trans ⟨rfl, rfl, rfl, Nat.le_refl _, fun _ _ => rfl⟩⟩, HS2⟩
    ·have e1 : (x0 == a) = false := by simp [c1]
     clear c0 c1; go_upto_region 4 with (fail)
     go_quiet (fail)
     go_wp2
     go_roundg (ds.length - (i + 1))
     case measure => have := HK.out; omega
     case rel => exact ⟨i + 1, by go_num, by omega, ⟨rfl⟩, ⟨HW.out.trans ⟨rfl, rfl, rfl, Nat.le_refl _, fun _ _ => rfl⟩⟩, HS2⟩
  ·have hie : i = ds.length := by omega
   have HF2 := zaa.mk (show outOf (zbq (bs.map (entB ds)) (a, b)) = (tv, mv) by have h := HF.out; rw [hie, List.drop_length, List.map_nil, List.nil_append] at h; exact h)
   obtain ⟨wo, rfl⟩ : ∃ w_ : World, w_ = wr := ⟨_, rfl⟩; clear hie; go_wp2
   clear a0 a1 d0 d1; go_loopg [7] bs.length (fun kq v7 wr => ∃ j : Nat, v7 = .int .i64 j ∧ j ≤ bs.length ∧ zaa (kq = bs.length - j) ∧ zaa (Below X.heap.size X wr) ∧ zaa (outOf (zbq ((bs.drop j).map (entB ds)) (a, b)) = (tv, mv)))
   case atStart => exact ⟨0, rfl, Nat.zero_le _, ⟨rfl⟩, HW, HF2⟩
   case round =>
    obtain ⟨j, rfl, hj, HK2', HW2, HG⟩ := hrel; obtain ⟨⟨a0, a1⟩, d0, d1⟩ := HCELL.out wr HW2.out; by_cases hlt2 : j < bs.length
    ·obtain ⟨x, hx⟩ : ∃ x, bs[j]? = some x := ⟨_, List.getElem?_eq_getElem hlt2⟩
     obtain ⟨ad, eA, p0, p1, p2⟩ := at_T43 (Kd.zaT HB.out HW2.out) (j : Int) (by omega) (by omega)
     subst eA; have hrd : rd_T43 bs (j : Int) = x := by
      unfold rd_T43
      rw [Int.toNat_natCast, List.getD_eq_getElem?_getD, hx]
      rfl
     rw [hrd, Int.toNat_natCast] at p0 p1 p2; have HS := zaa.mk (show outOf (if (entB ds x).1 = (a, b) then some (entB ds x).2 else zbq ((bs.drop (j + 1)).map (entB ds)) (a, b)) = (tv, mv) by have h := HG.out; rw [drop_ent hx, List.map_cons, firstOf_cons] at h; exact h)
     clear hx hrd; obtain ⟨⟨x0, x1⟩, x2⟩ := x; simp only at p0 p1 p2; by_cases c0 : x0 = a ∧ x1 = b
     ·have HV := zaa.mk (show outOf (some (if 0 ≤ x2 ∧ x2 < (ds.length : Int) then (calN (rd_T72 ds x2).f1, 0) else (6, 2))) = (tv, mv) by have h := HS.out; rw [if_pos (by unfold entB; simp [c0.1, c0.2])] at h; exact h)
      have e1 : (x0 == a) = true := by simp [c0.1]
      have e2 : (x1 == b) = true := by simp [c0.2]
      clear c0; go_upto_region 11 with (fail)
      go_quiet (fail)
      have HBQ := zaa.mk (show Below wr.heap.size wr (wr.drewN nq) from ⟨rfl, rfl, rfl, Nat.le_refl _, fun _ _ => rfl⟩)
      by_cases g1 : x2 < 0
      ·have h := HV.out
       rw [if_neg (by omega)] at h
       simp only [outOf, Prod.mk.injEq] at h; have HV2 := zaa.mk h; clear h; go_wp2
       refine bodyPost_ret (results_tmp2 rfl _ _ _) rfl ?_
       exact ⟨by rw [← HV2.out.1, ← HV2.out.2]; rfl, HBX.out.trans ((HW2.out.trans (HBQ.out.mono HW2.out.size)).mono HBX.out.size)⟩
      ·by_cases g2 : (ds.length : Int) ≤ x2
       ·have h := HV.out
        rw [if_neg (by omega)] at h
        simp only [outOf, Prod.mk.injEq] at h; have HV2 := zaa.mk h; clear h; go_wp2
        refine bodyPost_ret (results_tmp2 rfl _ _ _) rfl ?_
        exact ⟨by rw [← HV2.out.1, ← HV2.out.2]; rfl, HBX.out.trans ((HW2.out.trans (HBQ.out.mono HW2.out.size)).mono HBX.out.size)⟩
       ·obtain ⟨n, rfl⟩ : ∃ n : Nat, x2 = n := ⟨x2.toNat, by omega⟩
        have hnl : n < ds.length := by omega
        have h := HV.out; rw [if_pos ⟨by omega, by omega⟩] at h
        simp only [outOf, Prod.mk.injEq] at h; have HV2 := zaa.mk h; obtain ⟨add, eD, r0, r1, r2, r3⟩ := at_T72 (Kd.zaT HD.out (HW2.out.trans (HBQ.out.mono HW2.out.size))) (n : Int) (by omega) (by omega)
        subst eD; rw [Int.toNat_natCast] at r0 r1 r2 r3; obtain ⟨y, hy⟩ : ∃ y, y = (rd_T72 ds (n : Int)).f1 := ⟨_, rfl⟩; rw [← hy] at r2 HV2; have has := as_f y; clear h hy r0 r1 r3; go_wp2_with (go_at_call 52; refine (zbF.calls y (calN y - 1) _ has).mono ?_; rintro e w7 ⟨rfl, hd7⟩; have HB7 := zaa.mk hd7.below; clear hd7)
        refine bodyPost_ret (results_tmp2 rfl _ _ _) rfl ?_
        exact ⟨by rw [← HV2.out.1, ← HV2.out.2]; rfl, HBX.out.trans ((HW2.out.trans ((HBQ.out.mono HW2.out.size).trans (HB7.out.mono (Nat.le_trans HW2.out.size HBQ.out.size)))).mono HBX.out.size)⟩
     ·have HS2 := zaa.mk (show outOf (zbq ((bs.drop (j + 1)).map (entB ds)) (a, b)) = (tv, mv) by have h := HS.out; rw [if_neg (by unfold entB; simp only [Prod.mk.injEq]; exact c0)] at h; exact h)
      by_cases c1 : x0 = a
      ·have e1 : (x0 == a) = true := by simp [c1]
       have e2 : (x1 == b) = false := by simp; exact fun h => c0 ⟨c1, h⟩
       clear c0 c1; go_upto_region 11 with (fail)
       go_quiet (fail)
       go_wp2
       go_roundg (bs.length - (j + 1))
       case measure => have := HK2'.out; omega
       case rel => exact ⟨j + 1, by go_num, by omega, ⟨rfl⟩, ⟨HW2.out.trans ⟨rfl, rfl, rfl, Nat.le_refl _, fun _ _ => rfl⟩⟩, HS2⟩
      ·have e1 : (x0 == a) = false := by simp [c1]
       clear c0 c1; go_upto_region 11 with (fail)
       go_quiet (fail)
       go_wp2
       go_roundg (bs.length - (j + 1))
       case measure => have := HK2'.out; omega
       case rel => exact ⟨j + 1, by go_num, by omega, ⟨rfl⟩, ⟨HW2.out.trans ⟨rfl, rfl, rfl, Nat.le_refl _, fun _ _ => rfl⟩⟩, HS2⟩
    ·have hje : j = bs.length := by omega
     have h := HG.out; rw [hje, List.drop_length, List.map_nil] at h; simp only [zbq, List.find?_nil, Option.map_none, outOf, Prod.mk.injEq] at h; have HV2 := zaa.mk h; clear h hje; go_wp2
     refine bodyPost_ret (results_tmp2 rfl _ _ _) rfl ?_
     exact ⟨by rw [← HV2.out.1, ← HV2.out.2]; rfl, HBX.out.trans (HW2.out.mono HBX.out.size)⟩
theorem mixM : Tryd.prog.follows .mixedOrders = true := by kernel_rfl
theorem marksS_take {E : List Ent} {xs : List (S29 × Int × Int)} {i : Nat} {x : S29 × Int × Int} (h : xs[i]? = some x) : zbS E (xs.take (i + 1)) = zbS E (xs.take i) ++ markO E x.1.f0 (x.2.1, wrap64 (x.2.1 + x.1.f2)) := by
 unfold zbS
 rw [List.take_add_one, h, List.flatMap_append]; simp
theorem markO_great (E : List Ent) (k : Int) (h : 41 ≤ k) (s : Int × Int) : markO E k s = [] := by
 have h1 : kindR k = -1 := by unfold kindR; rw [if_neg (by omega)]; rfl
 rw [markO_kind E k (by omega), h1, if_neg (by omega)]
theorem rof_calls (s : ByteArray) (k w1 wd : Int) (A : Option Addr) (c : Nat) (l : List S29) (Ad : Option Addr) (cd : Nat) (ds : List S72) (Ab : Option Addr) (cb : Nat) (bs : List S43) (W : World) (hr : Kd.C k29 W A l.length l) (hc : l.length ≤ c) (hd : Kd.C k72 W Ad ds.length ds) (hdc : ds.length ≤ cd) (hb : Kd.C k43 W Ab bs.length bs) (hbc : bs.length ≤ cb) (hn : ds.length + bs.length ≤ 1000000) (hN : tsize ⟨k, w1, wd, l⟩ ≤ 2000000) (hby : byteT ⟨k, w1, wd, l⟩) :
  Calls Tryd.prog 12 #[.string s, .agg #[.int .u8 k, .int .u8 w1, .int .i64 wd, .slice A l.length c], .agg #[.slice Ad ds.length cd, .slice Ab bs.length cb]] W fun e W' => ∃ v, e = .returned (.tuple #[v, .int .i64 (errOf s ⟨k, w1, wd, l⟩)]) ∧ Kd.R k57 57 W' W.heap.size (fun _ => True) v (marksOf s ⟨k, w1, wd, l⟩ ds bs) ∧ Below W.heap.size W W' := by
 obtain ⟨X1, hX1⟩ : ∃ V, V = W.alloc (.cells #[.int .u8 k, .int .u8 w1, .int .i64 wd, .slice A l.length c] 29) := ⟨_, rfl⟩; obtain ⟨X, hX⟩ : ∃ V, V = X1.alloc (.cells #[.slice Ad ds.length cd, .slice Ab bs.length cb] 26) := ⟨_, rfl⟩; have hs1 : X1.heap.size = W.heap.size + 1 := by rw [hX1]; simp
 have b1 : Below W.heap.size W X1 := by rw [hX1]; exact zad (Below.refl _ _) _
 have b2 : Below X1.heap.size X1 X := by rw [hX]; exact zad (Below.refl _ _) _
 have HBX := zaa.mk (zai b1 b2); have HK1 := zaa.mk (show X.heap[W.heap.size]? = some (.cells #[.int .u8 k, .int .u8 w1, .int .i64 wd, .slice A l.length c] 29 (0, 0)) from zat (by rw [hX1]; exact heap_alloc_new _ _) b2)
 have HK2 := zaa.mk (show X.heap[W.heap.size + 1]? = some (.cells #[.slice Ad ds.length cd, .slice Ab bs.length cb] 26 (0, 0)) by rw [hX, ← hs1]; exact heap_alloc_new _ _)
 have HR := zaa.mk hr; have HC := zaa.mk hc; have HD := zaa.mk hd; have HDC := zaa.mk hdc; have HB := zaa.mk hb; have HBC := zaa.mk hbc; have HN := zaa.mk hn; have HNN := zaa.mk hN; obtain ⟨kr, hkr⟩ := right_ref k w1 wd l hby; obtain ⟨ob, hob⟩ : ∃ ob, ob = okB ⟨k, w1, wd, l⟩ := ⟨_, rfl⟩; have hrt := hkr kr (Nat.le_refl _); rw [← hob] at hrt; have hcall := zbe.calls kr k w1 wd A c l ob X (Kd.zaT hr HBX.out) hc hrt; obtain ⟨ka, hka⟩ := all_ev22 ⟨k, w1, wd, l⟩ hby hN; have HAE := zaa.mk (hka ka (Nat.le_refl _)); have HFI := zaa.mk (allT_fine hby); obtain ⟨xs, hxs⟩ : ∃ xs, xs = allT ⟨k, w1, wd, l⟩ := ⟨_, rfl⟩; have HXL := zaa.mk (show xs.length ≤ 2000000 by rw [hxs]; exact Nat.le_trans (allT_length _) hN)
 obtain ⟨E, hE⟩ : ∃ E, E = ents ds bs := ⟨_, rfl⟩; have HOK := zaa.mk (show okc s ⟨k, w1, wd, l⟩ = (ob && (k == 51 && wd == (s.size : Int))) by rw [hob]; rfl)
 have HMO := zaa.mk (show marksOf s ⟨k, w1, wd, l⟩ ds bs = if okc s ⟨k, w1, wd, l⟩ = true then zbS E xs else [] by rw [hE, hxs]; rfl)
 have HEO := zaa.mk (show errOf s ⟨k, w1, wd, l⟩ = if okc s ⟨k, w1, wd, l⟩ = true then 0 else 150 from rfl)
 rw [← hxs] at HAE HFI; have HEE := zaa.mk hE; have hu := Tryd.underlying29; have hum := Tryd.underlying26; have hus := Tryd.underlying41; have hu85 := Tryd.underlying85; have hu57 := Tryd.underlying57; simp only at HAE; clear hr hc hd hdc hb hbc hn hN hby hkr hob hrt hka hxs hE hs1 b1 b2; go_enter Tryd.func12, Tryd.ntmps12
 go_upto_region 1 with (fail)
 change Code.wp Tryd.prog _ _ _ ((W.alloc (.cells #[.int .u8 k, .int .u8 w1, .int .i64 wd, .slice A l.length c] 29)).alloc (.cells #[.slice Ad ds.length cd, .slice Ab bs.length cb] 26))
 rw [← hX1, ← hX]; clear hX hX1; have HCELL := zaa.mk (fun (w : World) (hw : Below X.heap.size X w) => (show (w.cell? ⟨W.heap.size, 0, none⟩ = some (.int .u8 k) ∧ w.cell? ⟨W.heap.size, 1, none⟩ = some (.int .u8 w1) ∧ w.cell? ⟨W.heap.size, 2, none⟩ = some (.int .i64 wd) ∧ w.cell? ⟨W.heap.size, 3, none⟩ = some (.slice A l.length c)) ∧ w.cell? ⟨W.heap.size + 1, 0, none⟩ = some (.slice Ad ds.length cd) ∧ w.cell? ⟨W.heap.size + 1, 1, none⟩ = some (.slice Ab bs.length cb) from by
  have g1 := zat HK1.out hw; have g2 := zat HK2.out hw; have a0 := zaf g1 0; have a1 := zaf g1 1; have a2 := zaf g1 2; have a3 := zaf g1 3; have d0 := zaf g2 0; have d1 := zaf g2 1; simp at a0 a1 a2 a3 d0 d1; exact ⟨⟨a0, a1, a2, a3⟩, d0, d1⟩))
 obtain ⟨⟨a0, a1, a2, a3⟩, d0, d1⟩ := HCELL.out X (Below.refl _ _); by_cases hok : okc s ⟨k, w1, wd, l⟩ = true
 case neg =>
  have HM0 := zaa.mk (show marksOf s ⟨k, w1, wd, l⟩ ds bs = [] by rw [HMO.out, if_neg hok])
  have HE0 := zaa.mk (show errOf s ⟨k, w1, wd, l⟩ = 150 by rw [HEO.out, if_neg hok])
  rw [HOK.out] at hok; have RT : "x" = "x" := rfl; cases ob with
  | false =>
   clear hok RT; go_wp2_with (go_at_call 23; refine hcall.mono ?_; rintro e w2 ⟨rfl, hb2⟩; have HB2 := zaa.mk hb2; clear hb2 hcall; clear a0 a1 a2 a3 d0 d1; obtain ⟨⟨a0, a1, a2, a3⟩, d0, d1⟩ := HCELL.out w2 HB2.out)
   refine bodyPost_ret (results_tmp2 rfl _ _ _) rfl ?_
   exact ⟨_, by rw [HE0.out]; rfl, by rw [HM0.out]; exact Kd.R_nil _ _ _ _ _, zai HBX.out HB2.out⟩
  | true =>
   by_cases c51 : k = 51
   ·have e51 : (k != 51) = false := by simp [c51]
    have ewd : (wd != (s.size : Int)) = true := by simp; intro h; exact hok (by simp [c51, h])
    clear hok RT c51; go_wp2_with (go_at_call 23; refine hcall.mono ?_; rintro e w2 ⟨rfl, hb2⟩; have HB2 := zaa.mk hb2; clear hb2 hcall; clear a0 a1 a2 a3 d0 d1; obtain ⟨⟨a0, a1, a2, a3⟩, d0, d1⟩ := HCELL.out w2 HB2.out)
    refine bodyPost_ret (results_tmp2 rfl _ _ _) rfl ?_
    exact ⟨_, by rw [HE0.out]; rfl, by rw [HM0.out]; exact Kd.R_nil _ _ _ _ _, zai HBX.out HB2.out⟩
   ·have e51 : (k != 51) = true := by simp [c51]
    clear hok RT c51; go_wp2_with (go_at_call 23; refine hcall.mono ?_; rintro e w2 ⟨rfl, hb2⟩; have HB2 := zaa.mk hb2; clear hb2 hcall; clear a0 a1 a2 a3 d0 d1; obtain ⟨⟨a0, a1, a2, a3⟩, d0, d1⟩ := HCELL.out w2 HB2.out)
    refine bodyPost_ret (results_tmp2 rfl _ _ _) rfl ?_
    exact ⟨_, by rw [HE0.out]; rfl, by rw [HM0.out]; exact Kd.R_nil _ _ _ _ _, zai HBX.out HB2.out⟩
 case pos =>
  have HM0 := zaa.mk (show marksOf s ⟨k, w1, wd, l⟩ ds bs = zbS E xs by rw [HMO.out, if_pos hok])
  have HE0 := zaa.mk (show errOf s ⟨k, w1, wd, l⟩ = 0 by rw [HEO.out, if_pos hok])
  rw [HOK.out] at hok; simp only [Bool.and_eq_true, beq_iff_eq] at hok; obtain ⟨rfl, hk51, hwd⟩ := hok; have e51 : (k != 51) = false := by simp [hk51]
  have ewd : (wd != (s.size : Int)) = false := by simp [hwd]
  clear hk51 hwd; go_upto_region 3 with (go_at_call 23; refine hcall.mono ?_; rintro e w2 ⟨rfl, hb2⟩; have HB2 := zaa.mk hb2; clear hb2 hcall; clear a0 a1 a2 a3 d0 d1; obtain ⟨⟨a0, a1, a2, a3⟩, d0, d1⟩ := HCELL.out w2 HB2.out)
  clear e51 ewd; have HBW2 := zaa.mk (zai HBX.out HB2.out); have hcall := zbJ.calls ka k w1 wd (fun k_ => k_ < w2.heap.size) A c l (xs.map seenS) w2 (Kd.V_mk HC.out (Kd.C_F k29_heap (Kd.zaT HR.out HBW2.out))) HAE.out
  go_wp2_with (go_at_call 24; refine hcall.mono ?_; rintro e w3 ⟨v3, rfl, hV3, hb3⟩; clear hcall a0 a1 a2 a3 d0 d1)
  obtain ⟨A3, c3, e0_, hc3, hF3⟩ := hV3; subst e0_; have hC3 := Kd.F_now hF3; have HB3 := zaa.mk (zai HB2.out hb3); have HC3 := zaa.mk hC3; rw [List.length_map] at *; clear hF3 hb3 hc3 hC3; go_loopg [9, 10] xs.length (fun kq v9 v10 w' => ∃ (i : Nat) (vv : Value), vv = v9 ∧ v10 = .int .i64 i ∧ i ≤ xs.length ∧ zaa (kq = xs.length - i) ∧ zaa (Below w3.heap.size w3 w') ∧ zaa (Kd.R k57 57 w' w3.heap.size (fun q => w3.heap.size ≤ q) v9 (zbS E (xs.take i))))
  case atStart => exact ⟨0, _, rfl, rfl, Nat.zero_le _, ⟨rfl⟩, ⟨Below.refl _ _⟩, ⟨Kd.R_nil _ _ _ _ _⟩⟩
  case round =>
   obtain ⟨i, vv, rfl, rfl, hi, HKQ, HBI, HRI⟩ := hrel; have hxl := HXL.out; by_cases hlt : i < xs.length
   ·obtain ⟨x, hx⟩ : ∃ x, xs[i]? = some x := ⟨_, List.getElem?_eq_getElem hlt⟩
    obtain ⟨ad, A4, c4, eA, q0, q1, q2, q3, q4, q5, _⟩ := at_T85 (Kd.zaT HC3.out HBI.out) (i : Int) (by omega) (by omega)
    subst eA; have hrd : rd_T85 (xs.map seenS) (i : Int) = seenS x := by
     unfold rd_T85
     rw [Int.toNat_natCast, List.getD_eq_getElem?_getD, List.getElem?_map, hx]
     rfl
    rw [hrd, Int.toNat_natCast] at q0 q1 q2 q3 q4 q5; have HF := zaa.mk (HFI.out x (List.mem_of_getElem? hx)); have HMT := zaa.mk (marksS_take (E := E) hx); obtain ⟨⟨xk, xw, xd, xl⟩, xf, xdp⟩ := x; obtain ⟨sf, hsf⟩ : ∃ sf, sf = xf := ⟨_, rfl⟩; obtain ⟨st, hst⟩ : ∃ st, st = wrap64 (xf + xd) := ⟨_, rfl⟩; simp only [seenS] at q0 q1 q2 q3 q4 q5; simp only at HMT; rw [← hsf] at q4 q5 HMT hst; rw [← hst] at q5 HMT; by_cases hxl0 : 0 < xl.length
    ·have HSK := zaa.mk (show zbS E (xs.take (i + 1)) = zbS E (xs.take i) by rw [HMT.out, markO_great E xk (HF.out.2.2 (by intro h; rw [show xl = [] from h] at hxl0; exact absurd hxl0 (by decide))), List.append_nil])
     clear hst hsf; go_wp2
     go_roundg (xs.length - (i + 1))
     case measure => have := HKQ.out; omega
     case rel => exact ⟨i + 1, _, rfl, by go_num, by omega, ⟨rfl⟩, HBI, ⟨by rw [HSK.out]; exact HRI.out⟩⟩
    have hxe : xl.length = 0 := by omega
    rw [hxe] at q3; obtain ⟨kk, hkk⟩ := kind_ev xk HF.out.1 HF.out.2.1; have HKK := zaa.mk (hkk kk (Nat.le_refl _)); obtain ⟨kv, hkv⟩ : ∃ kv, kv = kindR xk := ⟨_, rfl⟩; rw [← hkv] at HKK; have HKV := zaa.mk hkv; clear hkk hkv hxe hxl0 hst hsf; have HQ := zaa.mk (fun (w : World) (hw : Below wr.heap.size wr w) => (show w.cell? (ad.add (i * 7)) = some (.int .u8 xk) ∧ w.cell? ⟨(ad.add (i * 7)).block, (ad.add (i * 7)).off + 4, none⟩ = some (.int .i64 sf) ∧ w.cell? ⟨(ad.add (i * 7)).block, (ad.add (i * 7)).off + 5, none⟩ = some (.int .i64 st) from
     ⟨(hw.cell (World.block_lt_of_cell? wr _ q0)).trans q0, (hw.cell (World.block_lt_of_cell? wr _ q4)).trans q4, (hw.cell (World.block_lt_of_cell? wr _ q5)).trans q5⟩))
    go_upto_region 10 with (go_at_call 25; refine (zas.calls kk xk kv wr HKK.out).mono ?_; rintro e w5 ⟨rfl, hd5⟩; have HB5 := zaa.mk hd5.below; clear hd5 q0 q1 q2 q3 q4 q5; obtain ⟨q0, q4, q5⟩ := HQ.out w5 HB5.out)
    have HW5 := zaa.mk (zbN HBI.out HB5.out HBI.out.size); have HR5 := zaa.mk (Kd.zbm HRI.out HB5.out); by_cases hx6 : xk = 6
    ·have d6 : (xk == 6) = true := by simp [hx6]
     obtain ⟨tv, htv0⟩ : ∃ tv, tv = (outOf (zbq (ents ds bs) (sf, st))).1 := ⟨_, rfl⟩; obtain ⟨mv, hmv0⟩ : ∃ mv, mv = (outOf (zbq (ents ds bs) (sf, st))).2 := ⟨_, rfl⟩; have HNF := zaa.mk (show outOf (zbq (ents ds bs) (sf, st)) = (tv, mv) from Prod.ext htv0.symm hmv0.symm)
     have HMK := zaa.mk (show markO E xk (sf, st) = if tv ≥ 0 then [⟨⟨sf, st⟩, tv, mv⟩] else [] by rw [hx6, HEE.out, markO_name _ (fewE_ents ds bs) (ents_pos ds bs), htv0, hmv0])
     clear htv0 hmv0 hx6; go_upto_region 11 with (fail)
     obtain ⟨X2, hX2⟩ : ∃ X2 : World, X2 = w5.drew := ⟨_, rfl⟩; have HB2' := zaa.mk (show Below w5.heap.size w5 X2 by rw [hX2]; exact (Below.refl _ _).drew)
     have HBX2 := zaa.mk (zbN HW5.out HB2'.out HW5.out.size); have HSX := zaa.mk (fun (w : World) (hw : Below w5.heap.size w5 w) => (show (w.cell? ⟨W.heap.size + 1, 0, none⟩ = some (.slice Ad ds.length cd) ∧ w.cell? ⟨W.heap.size + 1, 1, none⟩ = some (.slice Ab bs.length cb)) ∧ w.cell? ⟨(ad.add (i * 7)).block, (ad.add (i * 7)).off + 4, none⟩ = some (.int .i64 sf) ∧ w.cell? ⟨(ad.add (i * 7)).block, (ad.add (i * 7)).off + 5, none⟩ = some (.int .i64 st) from
      ⟨(HCELL.out w (zai HB3.out (zbN HW5.out hw HW5.out.size))).2, (HQ.out w (zai HB5.out hw)).2⟩))
     have HS0 := zaa.mk (HSX.out X2 HB2'.out); have hcall := rname_calls Ad cd ds Ab cb bs sf st tv mv X2 (Kd.zaT HD.out (zai HBX.out (zai HB3.out HBX2.out))) (Kd.zaT HB.out (zai HBX.out (zai HB3.out HBX2.out))) HN.out HNF.out; refine wp_region_noPanic (zbn [0, 1, 2, 3, 4, 5, 6, 7, 8, 9, 10, 11] (fun w => (w.cell? ⟨W.heap.size + 1, 0, none⟩ = some (.slice Ad ds.length cd) ∧ w.cell? ⟨W.heap.size + 1, 1, none⟩ = some (.slice Ab bs.length cb)) ∧ w.cell? ⟨(ad.add (i * 7)).block, (ad.add (i * 7)).off + 4, none⟩ = some (.int .i64 sf) ∧ w.cell? ⟨(ad.add (i * 7)).block, (ad.add (i * 7)).off + 5, none⟩ = some (.int .i64 st)) mixM ?_)
     rw [← hX2]; clear hX2 q0 q4 q5; refine zah 0 rfl HS0.out (fun _ h => by obtain ⟨⟨s0, s1⟩, s2, s3⟩ := h; go_simp; try rfl) ?_
     simp only [Act.put, zaj]; refine zah 1 rfl HS0.out (fun _ h => by obtain ⟨⟨s0, s1⟩, s2, s3⟩ := h; go_simp; try rfl) ?_
     simp only [Act.put, zaj]; refine zah 2 rfl HS0.out (fun _ h => by obtain ⟨⟨s0, s1⟩, s2, s3⟩ := h; go_simp; try rfl) ?_
     simp only [Act.put, zaj]; refine zah 3 rfl HS0.out (fun _ h => by obtain ⟨⟨s0, s1⟩, s2, s3⟩ := h; go_simp; try rfl) ?_
     simp only [Act.put, zaj]; refine zah 4 rfl HS0.out (fun _ h => by obtain ⟨⟨s0, s1⟩, s2, s3⟩ := h; go_simp; try rfl) ?_
     simp only [Act.put, zaj]; refine zah 5 rfl HS0.out (fun _ h => by obtain ⟨⟨s0, s1⟩, s2, s3⟩ := h; go_simp; try rfl) ?_
     simp only [Act.put, zaj]; refine zaN (i := 6) rfl (by kernel_rfl) (fun K hK => ?_)
     go_simp
     refine hcall.mono ?_
     rintro e w6 ⟨rfl, hb6⟩
     have HB6 := zaa.mk (zai HB2'.out hb6); have HS6 := zaa.mk (HSX.out w6 HB6.out); clear hcall hb6; refine hK.out _ _ (fun _ => HS6.out) (fun _ => ?_)
     clear hK K; try simp only [Act.put, zaj]
     refine zah 7 rfl HS6.out (fun _ h => by obtain ⟨⟨s0, s1⟩, s2, s3⟩ := h; go_simp; try rfl) ?_
     simp only [Act.put, zaj]; refine zah 8 rfl HS6.out (fun _ h => by obtain ⟨⟨s0, s1⟩, s2, s3⟩ := h; go_simp; try rfl) ?_
     simp only [Act.put, zaj]; refine zah 9 rfl HS6.out (fun _ h => by obtain ⟨⟨s0, s1⟩, s2, s3⟩ := h; go_simp; try rfl) ?_
     simp only [Act.put, zaj]; refine zah 10 rfl HS6.out (fun _ h => by obtain ⟨⟨s0, s1⟩, s2, s3⟩ := h; go_simp; try rfl) ?_
     simp only [Act.put, zaj]; refine zah 11 rfl HS6.out (fun _ h => by obtain ⟨⟨s0, s1⟩, s2, s3⟩ := h; go_simp; try rfl) ?_
     simp only [Act.put, zaj]; refine zbb (by kernel_rfl) (NoPanic.normal ?_) _
     obtain ⟨q0, q4, q5⟩ := HQ.out w6 (zai HB5.out HB6.out); have HW6 := zaa.mk (zbN HW5.out HB6.out HW5.out.size); have HR6 := zaa.mk (Kd.zbm HR5.out HB6.out); by_cases htv : 0 ≤ tv
     ·have HMS := zaa.mk (show zbS E (xs.take (i + 1)) = zbS E (xs.take i) ++ [⟨⟨sf, st⟩, tv, mv⟩] by rw [HMT.out, HMK.out, if_pos htv])
      have HML := zaa.mk (show (zbS E (xs.take i)).length ≤ 2000000 by have := marksS_len E (xs.take i); rw [List.length_take] at this; omega)
      obtain ⟨Av, cv, ev⟩ := Kd.zbo HR6.out; obtain ⟨nv, hnv⟩ : ∃ nv, nv = (zbS E (xs.take i)).length := ⟨_, rfl⟩; rw [← hnv] at ev; subst ev; obtain ⟨Y, hY⟩ : ∃ Y : World, Y = w6.alloc (.cells #[.int .i64 sf, .int .i64 st, .int .i64 tv, .int .i64 mv] 57) := ⟨_, rfl⟩; have hbY : Below w6.heap.size w6 Y := by rw [hY]; exact zad (Below.refl _ _) _
      obtain ⟨g, cap, w8, hrun, hg8, hgo8, hbg8, hnl, hR8⟩ := zbR k57 57 47 HR6.out HW6.out.size (fun q hq => by have := HW6.out.size; omega) Tryd.underlying47 infoMark rfl (by decide) (by decide) (by have := HML.out; omega) hbY ⟨⟨sf, st⟩, tv, mv⟩ [.int .i64 sf, .int .i64 st, .int .i64 tv, .int .i64 mv] (by rw [hY]; exact heap_alloc_new _ _) (k57_mkM _ _ _ _) rfl (by intro v hv; simp at hv; rcases hv with rfl | rfl | rfl | rfl <;> rfl)
      rw [hY] at hrun; have HB8 := zaa.mk (show Below w3.heap.size w3 w8 from HW6.out.grown hg8 HW6.out.size (fun q hq => (HR6.out).1 q hq))
      have HR8 := zaa.mk (show Kd.R k57 57 w8 w3.heap.size (fun q => w3.heap.size ≤ q) (.slice (some ⟨g, 0, none⟩) (nv + 1) cap) (zbS E (xs.take (i + 1))) by rw [HMS.out]; exact hR8)
      clear hY hbY hg8 hgo8 hbg8 hnl hR8 hnv; go_wp2_with (at_builtin; refine wpL_app rfl _ _ _ rfl hrun ?_; clear hrun)
      go_roundg (xs.length - (i + 1))
      case measure => have := HKQ.out; omega
      case rel => exact ⟨i + 1, _, rfl, by go_num, by omega, ⟨rfl⟩, HB8, HR8⟩
     ·have HMS := zaa.mk (show zbS E (xs.take (i + 1)) = zbS E (xs.take i) by rw [HMT.out, HMK.out, if_neg htv, List.append_nil])
      go_wp2
      go_roundg (xs.length - (i + 1))
      case measure => have := HKQ.out; omega
      case rel => exact ⟨i + 1, _, rfl, by go_num, by omega, ⟨rfl⟩, ⟨HW6.out⟩, ⟨by rw [HMS.out]; exact HR6.out⟩⟩
    ·have d6 : (xk == 6) = false := by simp [hx6]
     have HMK := zaa.mk (show markO E xk (sf, st) = if kv ≥ 0 then [⟨⟨sf, st⟩, kv, 0⟩] else [] by rw [markO_kind _ _ hx6, HKV.out])
     clear hx6; by_cases htv : 0 ≤ kv
     ·have HMS := zaa.mk (show zbS E (xs.take (i + 1)) = zbS E (xs.take i) ++ [⟨⟨sf, st⟩, kv, 0⟩] by rw [HMT.out, HMK.out, if_pos htv])
      have HML := zaa.mk (show (zbS E (xs.take i)).length ≤ 2000000 by have := marksS_len E (xs.take i); rw [List.length_take] at this; omega)
      obtain ⟨Av, cv, ev⟩ := Kd.zbo HR5.out; obtain ⟨nv, hnv⟩ : ∃ nv, nv = (zbS E (xs.take i)).length := ⟨_, rfl⟩; rw [← hnv] at ev; subst ev; obtain ⟨Y, hY⟩ : ∃ Y : World, Y = w5.alloc (.cells #[.int .i64 sf, .int .i64 st, .int .i64 kv, .int .i64 0] 57) := ⟨_, rfl⟩; have hbY : Below w5.heap.size w5 Y := by rw [hY]; exact zad (Below.refl _ _) _
      obtain ⟨g, cap, w8, hrun, hg8, hgo8, hbg8, hnl, hR8⟩ := zbR k57 57 47 HR5.out HW5.out.size (fun q hq => by have := HW5.out.size; omega) Tryd.underlying47 infoMark rfl (by decide) (by decide) (by have := HML.out; omega) hbY ⟨⟨sf, st⟩, kv, 0⟩ [.int .i64 sf, .int .i64 st, .int .i64 kv, .int .i64 0] (by rw [hY]; exact heap_alloc_new _ _) (k57_mkM _ _ _ _) rfl (by intro v hv; simp at hv; rcases hv with rfl | rfl | rfl | rfl <;> rfl)
      rw [hY] at hrun; have HB8 := zaa.mk (show Below w3.heap.size w3 w8 from HW5.out.grown hg8 HW5.out.size (fun q hq => (HR5.out).1 q hq))
      have HR8 := zaa.mk (show Kd.R k57 57 w8 w3.heap.size (fun q => w3.heap.size ≤ q) (.slice (some ⟨g, 0, none⟩) (nv + 1) cap) (zbS E (xs.take (i + 1))) by rw [HMS.out]; exact hR8)
      clear hY hbY hg8 hgo8 hbg8 hnl hR8 hnv; go_wp2_with (at_builtin; refine wpL_app rfl _ _ _ rfl hrun ?_; clear hrun)
      go_roundg (xs.length - (i + 1))
      case measure => have := HKQ.out; omega
      case rel => exact ⟨i + 1, _, rfl, by go_num, by omega, ⟨rfl⟩, HB8, HR8⟩
     ·have HMS := zaa.mk (show zbS E (xs.take (i + 1)) = zbS E (xs.take i) by rw [HMT.out, HMK.out, if_neg htv, List.append_nil])
      go_wp2
      go_roundg (xs.length - (i + 1))
      case measure => have := HKQ.out; omega
      case rel => exact ⟨i + 1, _, rfl, by go_num, by omega, ⟨rfl⟩, ⟨HW5.out⟩, ⟨by rw [HMS.out]; exact HR5.out⟩⟩
   ·have hie : i = xs.length := by omega
    subst hie; have HRE := zaa.mk (show Kd.R k57 57 wr w3.heap.size (fun q => w3.heap.size ≤ q) vv (zbS E xs) by have h := HRI.out; rwa [List.take_length] at h)
    go_wp2
    refine bodyPost_ret (results_tmp2 rfl _ _ _) rfl ?_
    have h3 := zai HBX.out HB3.out; exact ⟨_, by rw [HE0.out]; rfl, by rw [HM0.out]; exact Kd.zbT (Kd.zbz HRE.out h3.size) (fun _ _ => trivial), zbN h3 (HBI.out.mono (Nat.le_refl _)) h3.size⟩
theorem R_lit0 {α : Type} {d : Kd α} {Y : World} {g base e : Nat} {ok : Nat → Prop} (hY : Y.heap[g]? = some (.cells #[] e (0, 0))) (hg : base ≤ g) (hok : ok g) : Kd.R d e Y base ok (.slice (some ⟨g, 0, none⟩) 0 0) [] :=
 ⟨fun k hk => by (obtain rfl : g = k := by simpa [Value.ownBlock] using hk); exact hok, [], ⟨by simp, .inr ⟨g, 0, #[], rfl, hg, hY, Nat.le_refl _, Nat.zero_le _, by simp, by simp⟩⟩, Reps.none _ _⟩
theorem mine_put {X3 y : World} {g c1 c2 : Nat} {A1 A2 : Option Addr} {ds : List S72} {bs : List S43} (h8 : y.heap[g]? = some (.cells #[.slice none 0 0, .slice none 0 0] 26 (0, 0))) (hb : Below X3.heap.size X3 y) (hg : X3.heap.size ≤ g)
  (r1 : Kd.R k72 72 y X3.heap.size (fun q => X3.heap.size ≤ q) (.slice A1 ds.length c1) ds) (r2 : Kd.R k43 43 y X3.heap.size (fun q => X3.heap.size ≤ q) (.slice A2 bs.length c2) bs) (l1 : ds.length ≤ c1) (l2 : bs.length ≤ c2) :
  ((y.setCell ⟨g, 0, none⟩ (.slice A1 ds.length c1)).setCell ⟨g, 1, none⟩ (.slice A2 bs.length c2)).heap[g]? = some (.cells #[.slice A1 ds.length c1, .slice A2 bs.length c2] 26 (0, 0)) ∧ Kd.C k72 ((y.setCell ⟨g, 0, none⟩ (.slice A1 ds.length c1)).setCell ⟨g, 1, none⟩ (.slice A2 bs.length c2)) A1 ds.length ds ∧ Kd.C k43 ((y.setCell ⟨g, 0, none⟩ (.slice A1 ds.length c1)).setCell ⟨g, 1, none⟩ (.slice A2 bs.length c2)) A2 bs.length bs ∧ ds.length ≤ c1 ∧ bs.length ≤ c2 ∧ Below X3.heap.size X3 ((y.setCell ⟨g, 0, none⟩ (.slice A1 ds.length c1)).setCell ⟨g, 1, none⟩ (.slice A2 bs.length c2)) := by
 have b1 := zbt h8 0 (.slice A1 ds.length c1); simp at b1; have b2 := zbt b1 1 (.slice A2 bs.length c2); simp at b2; have q1 := Kd.R_set (Kd.R_set r1 h8 (by decide) 0 (.slice A1 ds.length c1)) b1 (by decide) 1 (.slice A2 bs.length c2)
 have q2 := Kd.R_set (Kd.R_set r2 h8 (by decide) 0 (.slice A1 ds.length c1)) b1 (by decide) 1 (.slice A2 bs.length c2)
 exact ⟨b2, (Kd.za0 q1).2.2, (Kd.za0 q2).2.2, l1, l2, (hb.setCell hg _).setCell hg _⟩
theorem marked_calls (s : ByteArray) (k w1 wd : Int) (A : Option Addr) (c : Nat) (l : List S29) (Ad : Option Addr) (cd : Nat) (ds : List S72) (Ab : Option Addr) (cb : Nat) (bs : List S43) (W : World) (hr : Kd.C k29 W A l.length l) (hc : l.length ≤ c) (hd : Kd.C k72 W Ad ds.length ds) (hdc : ds.length ≤ cd) (hb : Kd.C k43 W Ab bs.length bs) (hbc : bs.length ≤ cb) (hdi : inDs ds) (hbi : inBs bs) (hn : ds.length + bs.length ≤ 1000000)
  (hN : tsize ⟨k, w1, wd, l⟩ ≤ 1000000) (hby : byteT ⟨k, w1, wd, l⟩) (htab : ColTab W) :
  Calls Tryd.prog 6 #[.string s, .agg #[.int .u8 k, .int .u8 w1, .int .i64 wd, .slice A l.length c], .agg #[.slice Ad ds.length cd, .slice Ab bs.length cb]] W fun e W' => e = .returned (.bool true) ∧ Below W.heap.size W W' := by
 obtain ⟨V1, hV1⟩ : ∃ V, V = W.alloc (.cells #[.int .u8 k, .int .u8 w1, .int .i64 wd, .slice A l.length c] 29) := ⟨_, rfl⟩; obtain ⟨X, hX⟩ : ∃ V, V = V1.alloc (.cells #[.slice Ad ds.length cd, .slice Ab bs.length cb] 26) := ⟨_, rfl⟩; have s1 : V1.heap.size = W.heap.size + 1 := by rw [hV1]; simp
 have e1 : Below W.heap.size W V1 := by rw [hV1]; exact zad (Below.refl _ _) _
 have e2 : Below V1.heap.size V1 X := by rw [hX]; exact zad (Below.refl _ _) _
 have k1 : X.heap[W.heap.size]? = some (.cells #[.int .u8 k, .int .u8 w1, .int .i64 wd, .slice A l.length c] 29 (0, 0)) := zat (by rw [hV1]; exact heap_alloc_new _ _) e2
 have k2 : X.heap[W.heap.size + 1]? = some (.cells #[.slice Ad ds.length cd, .slice Ab bs.length cb] 26 (0, 0)) := by rw [hX, ← s1]; exact heap_alloc_new _ _
 have HBV := zaa.mk (zai e1 e2); have HR := zaa.mk hr; have HC := zaa.mk hc; have HD := zaa.mk hd; have HDC := zaa.mk hdc; have HB := zaa.mk hb; have HBC := zaa.mk hbc; have HDI := zaa.mk hdi; have HBI := zaa.mk hbi; have HN := zaa.mk hn; have HNN := zaa.mk hN; have HBY := zaa.mk hby; have HTAB := zaa.mk htab; have HK1 := zaa.mk k1; have HK2 := zaa.mk k2; obtain ⟨KT, hKT⟩ := twin_ev ⟨k, w1, wd, l⟩ (by omega)
 have HTW := zaa.mk (hKT KT (Nat.le_refl _)); have HOF := zaa.mk (fun (w : World) (h1 : Kd.C k29 w A l.length l) (h2 : Kd.C k72 w Ad ds.length ds) (h3 : Kd.C k43 w Ab bs.length bs) => rof_calls s k w1 wd A c l Ad cd ds Ab cb bs w h1 hc h2 hdc h3 hbc hn (by omega) hby)
 clear hr hc hd hdc hb hbc hdi hbi hn hby htab k1 k2 e1 e2 s1 hKT; have hu := Tryd.underlying29; have hun := Tryd.underlying26; go_enter Tryd.func6, Tryd.ntmps6
 go_upto_region 1 with (fail)
 change Code.wp Tryd.prog _ _ _ ((W.alloc (.cells #[.int .u8 k, .int .u8 w1, .int .i64 wd, .slice A l.length c] 29)).alloc (.cells #[.slice Ad ds.length cd, .slice Ab bs.length cb] 26))
 rw [← hV1, ← hX]; clear hV1 hX; have p0 := zaf HK1.out 0; have p1 := zaf HK1.out 1; have p2 := zaf HK1.out 2; have p3 := zaf HK1.out 3; have l1 := zaO HK1.out; simp at p0 p1 p2 p3; go_upto_region 2 with (go_at_call 11; refine (zaR.calls KT k w1 wd A c l k w1 wd l X (Kd.zaT HR.out HBV.out) HC.out HTW.out).mono ?_; rintro e w2 ⟨vt, rfl, hRt, hb2⟩; obtain ⟨At, ct, rfl, hct, hCt⟩ := Kd.R_reads hRt; have HCT := zaa.mk hCt; have HLT := zaa.mk hct; have HB2 := zaa.mk hb2; clear hRt hb2 hCt hct p0 p1 p2 p3)
 obtain ⟨X3, hX3⟩ : ∃ V, V = w2.alloc (.cells #[.int .u8 k, .int .u8 w1, .int .i64 wd, .slice At l.length ct] 29) := ⟨_, rfl⟩; have e3 : Below w2.heap.size w2 X3 := by rw [hX3]; exact zad (Below.refl _ _) _
 have HK7 := zaa.mk (show X3.heap[w2.heap.size]? = some (.cells #[.int .u8 k, .int .u8 w1, .int .i64 wd, .slice At l.length ct] 29 (0, 0)) by rw [hX3]; exact heap_alloc_new _ _)
 have HB3 := zaa.mk (zai HB2.out e3); have HE3 := zaa.mk e3; change Code.wp Tryd.prog _ _ _ (w2.alloc (.cells #[.int .u8 k, .int .u8 w1, .int .i64 wd, .slice At l.length ct] 29))
 rw [← hX3]; clear hX3 e3; have HCT3 := zaa.mk (Kd.zaT HCT.out HE3.out); have HK13 := zaa.mk (zat HK1.out HB3.out); have HK23 := zaa.mk (zat HK2.out HB3.out); have HD3 := zaa.mk (Kd.zaT HD.out (zai HBV.out HB3.out)); have HB3' := zaa.mk (Kd.zaT HB.out (zai HBV.out HB3.out)); have HBV3 := zaa.mk (zai HBV.out HB3.out); clear HCT HE3 HB2 HTW; go_cut [8] (fun v8 wx => ∃ (b8 c1 c2 : Nat) (A1 A2 : Option Addr), v8 = .pointer (some ⟨b8, 0, none⟩) ∧ zaa (wx.heap[b8]? = some (.cells #[.slice A1 ds.length c1, .slice A2 bs.length c2] 26 (0, 0)) ∧ Kd.C k72 wx A1 ds.length ds ∧ Kd.C k43 wx A2 bs.length bs ∧ ds.length ≤ c1 ∧ bs.length ≤ c2 ∧ Below X3.heap.size X3 wx))
 case first =>
  obtain ⟨Y, hY⟩ : ∃ Y, Y = X3.drew := ⟨_, rfl⟩; have HBY := zaa.mk (show Below X3.heap.size X3 Y by rw [hY]; exact (Below.refl _ _).drew)
  refine wp_region_noPanic (zbn [0, 1, 2, 3, 4, 5, 6, 7, 8, 9, 10] (fun W' => W'.cell? ⟨W.heap.size + 1, 0, none⟩ = some (.slice Ad ds.length cd) ∧ W'.cell? ⟨W.heap.size + 1, 1, none⟩ = some (.slice Ab bs.length cb)) (by kernel_rfl) ?_)
  rw [← hY]; clear hY; have HSX := zaa.mk (fun (w : World) (hw : Below X3.heap.size X3 w) => (show w.cell? ⟨W.heap.size + 1, 0, none⟩ = some (.slice Ad ds.length cd) ∧ w.cell? ⟨W.heap.size + 1, 1, none⟩ = some (.slice Ab bs.length cb) from by
   have hk := zat HK23.out hw; have h0 := zaf hk 0; have h1 := zaf hk 1; simp at h0 h1; exact ⟨h0, h1⟩))
  have HS0 := zaa.mk (HSX.out Y HBY.out); refine zah 1 rfl HS0.out (fun _ h => by obtain ⟨s0, s1⟩ := h; go_simp; try rfl) ?_
  simp only [Act.put, zaj]; refine zah 2 rfl HS0.out (fun _ h => by obtain ⟨s0, s1⟩ := h; go_simp; try rfl) ?_
  simp only [Act.put, zaj]; refine zah 5 rfl HS0.out (fun _ h => by obtain ⟨s0, s1⟩ := h; go_simp; try rfl) ?_
  simp only [Act.put, zaj]; refine zah 6 rfl HS0.out (fun _ h => by obtain ⟨s0, s1⟩ := h; go_simp; try rfl) ?_
  simp only [Act.put, zaj]; obtain ⟨y, hy⟩ : ∃ y, y = Y := ⟨_, rfl⟩; rw [← hy] at HBY; rw [← hy]; clear hy HS0; all_goals (first | (refine wpAnyN_three (i := 0) (j := 4) (k := 9) rfl rfl rfl (by decide +kernel) (fun K hK => ?_) (fun K hK => ?_) (fun K hK => ?_); (go_simp; obtain ⟨z, hz⟩ : ∃ z, z = y.alloc (.cells #[] 72) := ⟨_, rfl⟩; rw [← hz]; have R1 := zaa.mk (show Kd.R k72 72 z X3.heap.size (fun q => X3.heap.size ≤ q) (.slice (some ⟨y.heap.size, 0, none⟩) 0 0) [] from R_lit0 (by rw [hz]; exact heap_alloc_new _ _) HBY.out.size HBY.out.size); (try (have N_ := zaa.mk (Kd.za4 R2.out (.cells #[] 72)); rw [← hz] at N_; clear R2; have R2 := N_; clear N_)); (try (have N_ := zaa.mk (zat H8.out (zad (Below.refl y.heap.size y) (.cells #[] 72))); rw [← hz] at N_; clear H8; have H8 := N_; clear N_)); (try (have N_ := zaa.mk (zad HBY.out (.cells #[] 72)); rw [← hz] at N_; clear HBY; have HBY := N_; clear N_)); have HS_ := zaa.mk (HSX.out z HBY.out); refine hK.out _ _ (fun _ => HS_.out) (fun _ => ?_); clear hK K HS_; (try simp only [Act.put, zaj]); clear hz; obtain ⟨y, rfl⟩ : ∃ y_ : World, y_ = z := ⟨_, rfl⟩); rotate_left; (go_simp; obtain ⟨z, hz⟩ : ∃ z, z = y.alloc (.cells #[] 43) := ⟨_, rfl⟩; rw [← hz]; have R2 := zaa.mk (show Kd.R k43 43 z X3.heap.size (fun q => X3.heap.size ≤ q) (.slice (some ⟨y.heap.size, 0, none⟩) 0 0) [] from R_lit0 (by rw [hz]; exact heap_alloc_new _ _) HBY.out.size HBY.out.size); (try (have N_ := zaa.mk (Kd.za4 R1.out (.cells #[] 43)); rw [← hz] at N_; clear R1; have R1 := N_; clear N_)); (try (have N_ := zaa.mk (zat H8.out (zad (Below.refl y.heap.size y) (.cells #[] 43))); rw [← hz] at N_; clear H8; have H8 := N_; clear N_)); (try (have N_ := zaa.mk (zad HBY.out (.cells #[] 43)); rw [← hz] at N_; clear HBY; have HBY := N_; clear N_)); have HS_ := zaa.mk (HSX.out z HBY.out); refine hK.out _ _ (fun _ => HS_.out) (fun _ => ?_); clear hK K HS_; (try simp only [Act.put, zaj]); clear hz; obtain ⟨y, rfl⟩ : ∃ y_ : World, y_ = z := ⟨_, rfl⟩); rotate_left; (go_simp; obtain ⟨z, hz⟩ : ∃ z, z = y.alloc (.cells #[.slice none 0 0, .slice none 0 0] 26) := ⟨_, rfl⟩; rw [← hz]; have G8 := zaa.mk (show X3.heap.size ≤ y.heap.size from HBY.out.size); have H8 := zaa.mk (show z.heap[y.heap.size]? = some (.cells #[.slice none 0 0, .slice none 0 0] 26 (0, 0)) by rw [hz]; exact heap_alloc_new _ _); (try (have N_ := zaa.mk (Kd.za4 R1.out (.cells #[.slice none 0 0, .slice none 0 0] 26)); rw [← hz] at N_; clear R1; have R1 := N_; clear N_)); (try (have N_ := zaa.mk (Kd.za4 R2.out (.cells #[.slice none 0 0, .slice none 0 0] 26)); rw [← hz] at N_; clear R2; have R2 := N_; clear N_)); (try (have N_ := zaa.mk (zad HBY.out (.cells #[.slice none 0 0, .slice none 0 0] 26)); rw [← hz] at N_; clear HBY; have HBY := N_; clear N_)); have HS_ := zaa.mk (HSX.out z HBY.out); refine hK.out _ _ (fun _ => HS_.out) (fun _ => ?_); clear hK K HS_; (try simp only [Act.put, zaj]); clear hz; obtain ⟨y, rfl⟩ : ∃ y_ : World, y_ = z := ⟨_, rfl⟩); rotate_left))
  all_goals (first | (refine wpAnyN_three (i := 3) (j := 4) (k := 9) rfl rfl rfl (by decide +kernel) (fun K hK => ?_) (fun K hK => ?_) (fun K hK => ?_); (refine Kd.zbK k72 (w0 := X3) X3.heap.size (by rfl) (.tmp 17) (.tmp 19) 23 72 _ 24 rfl Tryd.underlying23 info72 rfl (by decide) (by omega) _ [] ds _ _ _ (fun q => X3.heap.size ≤ q) (fun _ => False) rfl rfl R1.out (Kd.zaT HD3.out HBY.out) (fun x cs h => by obtain rfl := k72_open h; exact k72_mkM _ _ _ _) (fun _ h => h.elim) (fun q hq => Nat.le_trans HBY.out.size hq) HBY.out HBY.out.size (by have := HN.out; simp only [List.length_nil]; omega) ?_; intro v_ z ho hb hg hat; rw [List.nil_append] at ho; obtain ⟨A1, c1, rfl, hc_, _⟩ := Kd.R_reads ho; (try (have N_ := zaa.mk (Kd.R_over' R2.out (Kd.zbO R1.out) (by decide) hg); clear R2; have R2 := N_; clear N_)); (try (have N_ := zaa.mk ((hg.block _ (zaO H8.out) (fun e_ => by obtain ⟨cc_, hh_⟩ := Kd.zbO R1.out _ e_.symm; rw [H8.out] at hh_; injection hh_ with hh_; injection hh_ with _ h2_ _; exact absurd h2_ (by decide))).trans H8.out); clear H8; have H8 := N_; clear N_)); clear R1; have R1 := zaa.mk ho; have L1 := zaa.mk hc_; clear HBY; have HBY := zaa.mk hb; clear ho hb hg hat hc_; have HS_ := zaa.mk (HSX.out z HBY.out); refine hK.out _ _ (fun _ => HS_.out) (fun _ => ?_); clear hK K HS_; (try simp only [Act.put, zaj]); obtain ⟨y, rfl⟩ : ∃ y_ : World, y_ = z := ⟨_, rfl⟩); rotate_left; (go_simp; obtain ⟨z, hz⟩ : ∃ z, z = y.alloc (.cells #[] 43) := ⟨_, rfl⟩; rw [← hz]; have R2 := zaa.mk (show Kd.R k43 43 z X3.heap.size (fun q => X3.heap.size ≤ q) (.slice (some ⟨y.heap.size, 0, none⟩) 0 0) [] from R_lit0 (by rw [hz]; exact heap_alloc_new _ _) HBY.out.size HBY.out.size); (try (have N_ := zaa.mk (Kd.za4 R1.out (.cells #[] 43)); rw [← hz] at N_; clear R1; have R1 := N_; clear N_)); (try (have N_ := zaa.mk (zat H8.out (zad (Below.refl y.heap.size y) (.cells #[] 43))); rw [← hz] at N_; clear H8; have H8 := N_; clear N_)); (try (have N_ := zaa.mk (zad HBY.out (.cells #[] 43)); rw [← hz] at N_; clear HBY; have HBY := N_; clear N_)); have HS_ := zaa.mk (HSX.out z HBY.out); refine hK.out _ _ (fun _ => HS_.out) (fun _ => ?_); clear hK K HS_; (try simp only [Act.put, zaj]); clear hz; obtain ⟨y, rfl⟩ : ∃ y_ : World, y_ = z := ⟨_, rfl⟩); rotate_left; (go_simp; obtain ⟨z, hz⟩ : ∃ z, z = y.alloc (.cells #[.slice none 0 0, .slice none 0 0] 26) := ⟨_, rfl⟩; rw [← hz]; have G8 := zaa.mk (show X3.heap.size ≤ y.heap.size from HBY.out.size); have H8 := zaa.mk (show z.heap[y.heap.size]? = some (.cells #[.slice none 0 0, .slice none 0 0] 26 (0, 0)) by rw [hz]; exact heap_alloc_new _ _); (try (have N_ := zaa.mk (Kd.za4 R1.out (.cells #[.slice none 0 0, .slice none 0 0] 26)); rw [← hz] at N_; clear R1; have R1 := N_; clear N_)); (try (have N_ := zaa.mk (Kd.za4 R2.out (.cells #[.slice none 0 0, .slice none 0 0] 26)); rw [← hz] at N_; clear R2; have R2 := N_; clear N_)); (try (have N_ := zaa.mk (zad HBY.out (.cells #[.slice none 0 0, .slice none 0 0] 26)); rw [← hz] at N_; clear HBY; have HBY := N_; clear N_)); have HS_ := zaa.mk (HSX.out z HBY.out); refine hK.out _ _ (fun _ => HS_.out) (fun _ => ?_); clear hK K HS_; (try simp only [Act.put, zaj]); clear hz; obtain ⟨y, rfl⟩ : ∃ y_ : World, y_ = z := ⟨_, rfl⟩); rotate_left) | (refine wpAnyN_two (i := 0) (j := 4) rfl rfl (by decide +kernel) (fun K hK => ?_) (fun K hK => ?_); (go_simp; obtain ⟨z, hz⟩ : ∃ z, z = y.alloc (.cells #[] 72) := ⟨_, rfl⟩; rw [← hz]; have R1 := zaa.mk (show Kd.R k72 72 z X3.heap.size (fun q => X3.heap.size ≤ q) (.slice (some ⟨y.heap.size, 0, none⟩) 0 0) [] from R_lit0 (by rw [hz]; exact heap_alloc_new _ _) HBY.out.size HBY.out.size); (try (have N_ := zaa.mk (Kd.za4 R2.out (.cells #[] 72)); rw [← hz] at N_; clear R2; have R2 := N_; clear N_)); (try (have N_ := zaa.mk (zat H8.out (zad (Below.refl y.heap.size y) (.cells #[] 72))); rw [← hz] at N_; clear H8; have H8 := N_; clear N_)); (try (have N_ := zaa.mk (zad HBY.out (.cells #[] 72)); rw [← hz] at N_; clear HBY; have HBY := N_; clear N_)); have HS_ := zaa.mk (HSX.out z HBY.out); refine hK.out _ _ (fun _ => HS_.out) (fun _ => ?_); clear hK K HS_; (try simp only [Act.put, zaj]); clear hz; obtain ⟨y, rfl⟩ : ∃ y_ : World, y_ = z := ⟨_, rfl⟩); rotate_left; (go_simp; obtain ⟨z, hz⟩ : ∃ z, z = y.alloc (.cells #[] 43) := ⟨_, rfl⟩; rw [← hz]; have R2 := zaa.mk (show Kd.R k43 43 z X3.heap.size (fun q => X3.heap.size ≤ q) (.slice (some ⟨y.heap.size, 0, none⟩) 0 0) [] from R_lit0 (by rw [hz]; exact heap_alloc_new _ _) HBY.out.size HBY.out.size); (try (have N_ := zaa.mk (Kd.za4 R1.out (.cells #[] 43)); rw [← hz] at N_; clear R1; have R1 := N_; clear N_)); (try (have N_ := zaa.mk (zat H8.out (zad (Below.refl y.heap.size y) (.cells #[] 43))); rw [← hz] at N_; clear H8; have H8 := N_; clear N_)); (try (have N_ := zaa.mk (zad HBY.out (.cells #[] 43)); rw [← hz] at N_; clear HBY; have HBY := N_; clear N_)); have HS_ := zaa.mk (HSX.out z HBY.out); refine hK.out _ _ (fun _ => HS_.out) (fun _ => ?_); clear hK K HS_; (try simp only [Act.put, zaj]); clear hz; obtain ⟨y, rfl⟩ : ∃ y_ : World, y_ = z := ⟨_, rfl⟩); rotate_left) | (refine wpAnyN_two (i := 0) (j := 9) rfl rfl (by decide +kernel) (fun K hK => ?_) (fun K hK => ?_); (go_simp; obtain ⟨z, hz⟩ : ∃ z, z = y.alloc (.cells #[] 72) := ⟨_, rfl⟩; rw [← hz]; have R1 := zaa.mk (show Kd.R k72 72 z X3.heap.size (fun q => X3.heap.size ≤ q) (.slice (some ⟨y.heap.size, 0, none⟩) 0 0) [] from R_lit0 (by rw [hz]; exact heap_alloc_new _ _) HBY.out.size HBY.out.size); (try (have N_ := zaa.mk (Kd.za4 R2.out (.cells #[] 72)); rw [← hz] at N_; clear R2; have R2 := N_; clear N_)); (try (have N_ := zaa.mk (zat H8.out (zad (Below.refl y.heap.size y) (.cells #[] 72))); rw [← hz] at N_; clear H8; have H8 := N_; clear N_)); (try (have N_ := zaa.mk (zad HBY.out (.cells #[] 72)); rw [← hz] at N_; clear HBY; have HBY := N_; clear N_)); have HS_ := zaa.mk (HSX.out z HBY.out); refine hK.out _ _ (fun _ => HS_.out) (fun _ => ?_); clear hK K HS_; (try simp only [Act.put, zaj]); clear hz; obtain ⟨y, rfl⟩ : ∃ y_ : World, y_ = z := ⟨_, rfl⟩); rotate_left; (go_simp; obtain ⟨z, hz⟩ : ∃ z, z = y.alloc (.cells #[.slice none 0 0, .slice none 0 0] 26) := ⟨_, rfl⟩; rw [← hz]; have G8 := zaa.mk (show X3.heap.size ≤ y.heap.size from HBY.out.size); have H8 := zaa.mk (show z.heap[y.heap.size]? = some (.cells #[.slice none 0 0, .slice none 0 0] 26 (0, 0)) by rw [hz]; exact heap_alloc_new _ _); (try (have N_ := zaa.mk (Kd.za4 R1.out (.cells #[.slice none 0 0, .slice none 0 0] 26)); rw [← hz] at N_; clear R1; have R1 := N_; clear N_)); (try (have N_ := zaa.mk (Kd.za4 R2.out (.cells #[.slice none 0 0, .slice none 0 0] 26)); rw [← hz] at N_; clear R2; have R2 := N_; clear N_)); (try (have N_ := zaa.mk (zad HBY.out (.cells #[.slice none 0 0, .slice none 0 0] 26)); rw [← hz] at N_; clear HBY; have HBY := N_; clear N_)); have HS_ := zaa.mk (HSX.out z HBY.out); refine hK.out _ _ (fun _ => HS_.out) (fun _ => ?_); clear hK K HS_; (try simp only [Act.put, zaj]); clear hz; obtain ⟨y, rfl⟩ : ∃ y_ : World, y_ = z := ⟨_, rfl⟩); rotate_left))
  all_goals (first | (refine wpAnyN_two (i := 3) (j := 4) rfl rfl (by decide +kernel) (fun K hK => ?_) (fun K hK => ?_); (refine Kd.zbK k72 (w0 := X3) X3.heap.size (by rfl) (.tmp 17) (.tmp 19) 23 72 _ 24 rfl Tryd.underlying23 info72 rfl (by decide) (by omega) _ [] ds _ _ _ (fun q => X3.heap.size ≤ q) (fun _ => False) rfl rfl R1.out (Kd.zaT HD3.out HBY.out) (fun x cs h => by obtain rfl := k72_open h; exact k72_mkM _ _ _ _) (fun _ h => h.elim) (fun q hq => Nat.le_trans HBY.out.size hq) HBY.out HBY.out.size (by have := HN.out; simp only [List.length_nil]; omega) ?_; intro v_ z ho hb hg hat; rw [List.nil_append] at ho; obtain ⟨A1, c1, rfl, hc_, _⟩ := Kd.R_reads ho; (try (have N_ := zaa.mk (Kd.R_over' R2.out (Kd.zbO R1.out) (by decide) hg); clear R2; have R2 := N_; clear N_)); (try (have N_ := zaa.mk ((hg.block _ (zaO H8.out) (fun e_ => by obtain ⟨cc_, hh_⟩ := Kd.zbO R1.out _ e_.symm; rw [H8.out] at hh_; injection hh_ with hh_; injection hh_ with _ h2_ _; exact absurd h2_ (by decide))).trans H8.out); clear H8; have H8 := N_; clear N_)); clear R1; have R1 := zaa.mk ho; have L1 := zaa.mk hc_; clear HBY; have HBY := zaa.mk hb; clear ho hb hg hat hc_; have HS_ := zaa.mk (HSX.out z HBY.out); refine hK.out _ _ (fun _ => HS_.out) (fun _ => ?_); clear hK K HS_; (try simp only [Act.put, zaj]); obtain ⟨y, rfl⟩ : ∃ y_ : World, y_ = z := ⟨_, rfl⟩); rotate_left; (go_simp; obtain ⟨z, hz⟩ : ∃ z, z = y.alloc (.cells #[] 43) := ⟨_, rfl⟩; rw [← hz]; have R2 := zaa.mk (show Kd.R k43 43 z X3.heap.size (fun q => X3.heap.size ≤ q) (.slice (some ⟨y.heap.size, 0, none⟩) 0 0) [] from R_lit0 (by rw [hz]; exact heap_alloc_new _ _) HBY.out.size HBY.out.size); (try (have N_ := zaa.mk (Kd.za4 R1.out (.cells #[] 43)); rw [← hz] at N_; clear R1; have R1 := N_; clear N_)); (try (have N_ := zaa.mk (zat H8.out (zad (Below.refl y.heap.size y) (.cells #[] 43))); rw [← hz] at N_; clear H8; have H8 := N_; clear N_)); (try (have N_ := zaa.mk (zad HBY.out (.cells #[] 43)); rw [← hz] at N_; clear HBY; have HBY := N_; clear N_)); have HS_ := zaa.mk (HSX.out z HBY.out); refine hK.out _ _ (fun _ => HS_.out) (fun _ => ?_); clear hK K HS_; (try simp only [Act.put, zaj]); clear hz; obtain ⟨y, rfl⟩ : ∃ y_ : World, y_ = z := ⟨_, rfl⟩); rotate_left) | (refine wpAnyN_two (i := 3) (j := 9) rfl rfl (by decide +kernel) (fun K hK => ?_) (fun K hK => ?_); (refine Kd.zbK k72 (w0 := X3) X3.heap.size (by rfl) (.tmp 17) (.tmp 19) 23 72 _ 24 rfl Tryd.underlying23 info72 rfl (by decide) (by omega) _ [] ds _ _ _ (fun q => X3.heap.size ≤ q) (fun _ => False) rfl rfl R1.out (Kd.zaT HD3.out HBY.out) (fun x cs h => by obtain rfl := k72_open h; exact k72_mkM _ _ _ _) (fun _ h => h.elim) (fun q hq => Nat.le_trans HBY.out.size hq) HBY.out HBY.out.size (by have := HN.out; simp only [List.length_nil]; omega) ?_; intro v_ z ho hb hg hat; rw [List.nil_append] at ho; obtain ⟨A1, c1, rfl, hc_, _⟩ := Kd.R_reads ho; (try (have N_ := zaa.mk (Kd.R_over' R2.out (Kd.zbO R1.out) (by decide) hg); clear R2; have R2 := N_; clear N_)); (try (have N_ := zaa.mk ((hg.block _ (zaO H8.out) (fun e_ => by obtain ⟨cc_, hh_⟩ := Kd.zbO R1.out _ e_.symm; rw [H8.out] at hh_; injection hh_ with hh_; injection hh_ with _ h2_ _; exact absurd h2_ (by decide))).trans H8.out); clear H8; have H8 := N_; clear N_)); clear R1; have R1 := zaa.mk ho; have L1 := zaa.mk hc_; clear HBY; have HBY := zaa.mk hb; clear ho hb hg hat hc_; have HS_ := zaa.mk (HSX.out z HBY.out); refine hK.out _ _ (fun _ => HS_.out) (fun _ => ?_); clear hK K HS_; (try simp only [Act.put, zaj]); obtain ⟨y, rfl⟩ : ∃ y_ : World, y_ = z := ⟨_, rfl⟩); rotate_left; (go_simp; obtain ⟨z, hz⟩ : ∃ z, z = y.alloc (.cells #[.slice none 0 0, .slice none 0 0] 26) := ⟨_, rfl⟩; rw [← hz]; have G8 := zaa.mk (show X3.heap.size ≤ y.heap.size from HBY.out.size); have H8 := zaa.mk (show z.heap[y.heap.size]? = some (.cells #[.slice none 0 0, .slice none 0 0] 26 (0, 0)) by rw [hz]; exact heap_alloc_new _ _); (try (have N_ := zaa.mk (Kd.za4 R1.out (.cells #[.slice none 0 0, .slice none 0 0] 26)); rw [← hz] at N_; clear R1; have R1 := N_; clear N_)); (try (have N_ := zaa.mk (Kd.za4 R2.out (.cells #[.slice none 0 0, .slice none 0 0] 26)); rw [← hz] at N_; clear R2; have R2 := N_; clear N_)); (try (have N_ := zaa.mk (zad HBY.out (.cells #[.slice none 0 0, .slice none 0 0] 26)); rw [← hz] at N_; clear HBY; have HBY := N_; clear N_)); have HS_ := zaa.mk (HSX.out z HBY.out); refine hK.out _ _ (fun _ => HS_.out) (fun _ => ?_); clear hK K HS_; (try simp only [Act.put, zaj]); clear hz; obtain ⟨y, rfl⟩ : ∃ y_ : World, y_ = z := ⟨_, rfl⟩); rotate_left) | (refine wpAnyN_two (i := 4) (j := 9) rfl rfl (by decide +kernel) (fun K hK => ?_) (fun K hK => ?_); (go_simp; obtain ⟨z, hz⟩ : ∃ z, z = y.alloc (.cells #[] 43) := ⟨_, rfl⟩; rw [← hz]; have R2 := zaa.mk (show Kd.R k43 43 z X3.heap.size (fun q => X3.heap.size ≤ q) (.slice (some ⟨y.heap.size, 0, none⟩) 0 0) [] from R_lit0 (by rw [hz]; exact heap_alloc_new _ _) HBY.out.size HBY.out.size); (try (have N_ := zaa.mk (Kd.za4 R1.out (.cells #[] 43)); rw [← hz] at N_; clear R1; have R1 := N_; clear N_)); (try (have N_ := zaa.mk (zat H8.out (zad (Below.refl y.heap.size y) (.cells #[] 43))); rw [← hz] at N_; clear H8; have H8 := N_; clear N_)); (try (have N_ := zaa.mk (zad HBY.out (.cells #[] 43)); rw [← hz] at N_; clear HBY; have HBY := N_; clear N_)); have HS_ := zaa.mk (HSX.out z HBY.out); refine hK.out _ _ (fun _ => HS_.out) (fun _ => ?_); clear hK K HS_; (try simp only [Act.put, zaj]); clear hz; obtain ⟨y, rfl⟩ : ∃ y_ : World, y_ = z := ⟨_, rfl⟩); rotate_left; (go_simp; obtain ⟨z, hz⟩ : ∃ z, z = y.alloc (.cells #[.slice none 0 0, .slice none 0 0] 26) := ⟨_, rfl⟩; rw [← hz]; have G8 := zaa.mk (show X3.heap.size ≤ y.heap.size from HBY.out.size); have H8 := zaa.mk (show z.heap[y.heap.size]? = some (.cells #[.slice none 0 0, .slice none 0 0] 26 (0, 0)) by rw [hz]; exact heap_alloc_new _ _); (try (have N_ := zaa.mk (Kd.za4 R1.out (.cells #[.slice none 0 0, .slice none 0 0] 26)); rw [← hz] at N_; clear R1; have R1 := N_; clear N_)); (try (have N_ := zaa.mk (Kd.za4 R2.out (.cells #[.slice none 0 0, .slice none 0 0] 26)); rw [← hz] at N_; clear R2; have R2 := N_; clear N_)); (try (have N_ := zaa.mk (zad HBY.out (.cells #[.slice none 0 0, .slice none 0 0] 26)); rw [← hz] at N_; clear HBY; have HBY := N_; clear N_)); have HS_ := zaa.mk (HSX.out z HBY.out); refine hK.out _ _ (fun _ => HS_.out) (fun _ => ?_); clear hK K HS_; (try simp only [Act.put, zaj]); clear hz; obtain ⟨y, rfl⟩ : ∃ y_ : World, y_ = z := ⟨_, rfl⟩); rotate_left) | (refine zaN (i := 0) rfl (by decide +kernel) (fun K hK => ?_); (go_simp; obtain ⟨z, hz⟩ : ∃ z, z = y.alloc (.cells #[] 72) := ⟨_, rfl⟩; rw [← hz]; have R1 := zaa.mk (show Kd.R k72 72 z X3.heap.size (fun q => X3.heap.size ≤ q) (.slice (some ⟨y.heap.size, 0, none⟩) 0 0) [] from R_lit0 (by rw [hz]; exact heap_alloc_new _ _) HBY.out.size HBY.out.size); (try (have N_ := zaa.mk (Kd.za4 R2.out (.cells #[] 72)); rw [← hz] at N_; clear R2; have R2 := N_; clear N_)); (try (have N_ := zaa.mk (zat H8.out (zad (Below.refl y.heap.size y) (.cells #[] 72))); rw [← hz] at N_; clear H8; have H8 := N_; clear N_)); (try (have N_ := zaa.mk (zad HBY.out (.cells #[] 72)); rw [← hz] at N_; clear HBY; have HBY := N_; clear N_)); have HS_ := zaa.mk (HSX.out z HBY.out); refine hK.out _ _ (fun _ => HS_.out) (fun _ => ?_); clear hK K HS_; (try simp only [Act.put, zaj]); clear hz; obtain ⟨y, rfl⟩ : ∃ y_ : World, y_ = z := ⟨_, rfl⟩)))
  all_goals (first | (refine wpAnyN_two (i := 7) (j := 9) rfl rfl (by decide +kernel) (fun K hK => ?_) (fun K hK => ?_); (refine Kd.zbK k43 (w0 := X3) X3.heap.size (by rfl) (.tmp 21) (.tmp 23) 24 43 _ 24 rfl Tryd.underlying24 info43 rfl (by decide) (by omega) _ [] bs _ _ _ (fun q => X3.heap.size ≤ q) (fun _ => False) rfl rfl R2.out (Kd.zaT HB3'.out HBY.out) (fun x cs h => by obtain rfl := k43_open h; exact k43_mkM _ _ _ _) (fun _ h => h.elim) (fun q hq => Nat.le_trans HBY.out.size hq) HBY.out HBY.out.size (by have := HN.out; simp only [List.length_nil]; omega) ?_; intro v_ z ho hb hg hat; rw [List.nil_append] at ho; obtain ⟨A2, c2, rfl, hc_, _⟩ := Kd.R_reads ho; (try (have N_ := zaa.mk (Kd.R_over' R1.out (Kd.zbO R2.out) (by decide) hg); clear R1; have R1 := N_; clear N_)); (try (have N_ := zaa.mk ((hg.block _ (zaO H8.out) (fun e_ => by obtain ⟨cc_, hh_⟩ := Kd.zbO R2.out _ e_.symm; rw [H8.out] at hh_; injection hh_ with hh_; injection hh_ with _ h2_ _; exact absurd h2_ (by decide))).trans H8.out); clear H8; have H8 := N_; clear N_)); clear R2; have R2 := zaa.mk ho; have L2 := zaa.mk hc_; clear HBY; have HBY := zaa.mk hb; clear ho hb hg hat hc_; have HS_ := zaa.mk (HSX.out z HBY.out); refine hK.out _ _ (fun _ => HS_.out) (fun _ => ?_); clear hK K HS_; (try simp only [Act.put, zaj]); obtain ⟨y, rfl⟩ : ∃ y_ : World, y_ = z := ⟨_, rfl⟩); rotate_left; (go_simp; obtain ⟨z, hz⟩ : ∃ z, z = y.alloc (.cells #[.slice none 0 0, .slice none 0 0] 26) := ⟨_, rfl⟩; rw [← hz]; have G8 := zaa.mk (show X3.heap.size ≤ y.heap.size from HBY.out.size); have H8 := zaa.mk (show z.heap[y.heap.size]? = some (.cells #[.slice none 0 0, .slice none 0 0] 26 (0, 0)) by rw [hz]; exact heap_alloc_new _ _); (try (have N_ := zaa.mk (Kd.za4 R1.out (.cells #[.slice none 0 0, .slice none 0 0] 26)); rw [← hz] at N_; clear R1; have R1 := N_; clear N_)); (try (have N_ := zaa.mk (Kd.za4 R2.out (.cells #[.slice none 0 0, .slice none 0 0] 26)); rw [← hz] at N_; clear R2; have R2 := N_; clear N_)); (try (have N_ := zaa.mk (zad HBY.out (.cells #[.slice none 0 0, .slice none 0 0] 26)); rw [← hz] at N_; clear HBY; have HBY := N_; clear N_)); have HS_ := zaa.mk (HSX.out z HBY.out); refine hK.out _ _ (fun _ => HS_.out) (fun _ => ?_); clear hK K HS_; (try simp only [Act.put, zaj]); clear hz; obtain ⟨y, rfl⟩ : ∃ y_ : World, y_ = z := ⟨_, rfl⟩); rotate_left) | (refine zaN (i := 3) rfl (by decide +kernel) (fun K hK => ?_); (refine Kd.zbK k72 (w0 := X3) X3.heap.size (by rfl) (.tmp 17) (.tmp 19) 23 72 _ 24 rfl Tryd.underlying23 info72 rfl (by decide) (by omega) _ [] ds _ _ _ (fun q => X3.heap.size ≤ q) (fun _ => False) rfl rfl R1.out (Kd.zaT HD3.out HBY.out) (fun x cs h => by obtain rfl := k72_open h; exact k72_mkM _ _ _ _) (fun _ h => h.elim) (fun q hq => Nat.le_trans HBY.out.size hq) HBY.out HBY.out.size (by have := HN.out; simp only [List.length_nil]; omega) ?_; intro v_ z ho hb hg hat; rw [List.nil_append] at ho; obtain ⟨A1, c1, rfl, hc_, _⟩ := Kd.R_reads ho; (try (have N_ := zaa.mk (Kd.R_over' R2.out (Kd.zbO R1.out) (by decide) hg); clear R2; have R2 := N_; clear N_)); (try (have N_ := zaa.mk ((hg.block _ (zaO H8.out) (fun e_ => by obtain ⟨cc_, hh_⟩ := Kd.zbO R1.out _ e_.symm; rw [H8.out] at hh_; injection hh_ with hh_; injection hh_ with _ h2_ _; exact absurd h2_ (by decide))).trans H8.out); clear H8; have H8 := N_; clear N_)); clear R1; have R1 := zaa.mk ho; have L1 := zaa.mk hc_; clear HBY; have HBY := zaa.mk hb; clear ho hb hg hat hc_; have HS_ := zaa.mk (HSX.out z HBY.out); refine hK.out _ _ (fun _ => HS_.out) (fun _ => ?_); clear hK K HS_; (try simp only [Act.put, zaj]); obtain ⟨y, rfl⟩ : ∃ y_ : World, y_ = z := ⟨_, rfl⟩)) | (refine zaN (i := 4) rfl (by decide +kernel) (fun K hK => ?_); (go_simp; obtain ⟨z, hz⟩ : ∃ z, z = y.alloc (.cells #[] 43) := ⟨_, rfl⟩; rw [← hz]; have R2 := zaa.mk (show Kd.R k43 43 z X3.heap.size (fun q => X3.heap.size ≤ q) (.slice (some ⟨y.heap.size, 0, none⟩) 0 0) [] from R_lit0 (by rw [hz]; exact heap_alloc_new _ _) HBY.out.size HBY.out.size); (try (have N_ := zaa.mk (Kd.za4 R1.out (.cells #[] 43)); rw [← hz] at N_; clear R1; have R1 := N_; clear N_)); (try (have N_ := zaa.mk (zat H8.out (zad (Below.refl y.heap.size y) (.cells #[] 43))); rw [← hz] at N_; clear H8; have H8 := N_; clear N_)); (try (have N_ := zaa.mk (zad HBY.out (.cells #[] 43)); rw [← hz] at N_; clear HBY; have HBY := N_; clear N_)); have HS_ := zaa.mk (HSX.out z HBY.out); refine hK.out _ _ (fun _ => HS_.out) (fun _ => ?_); clear hK K HS_; (try simp only [Act.put, zaj]); clear hz; obtain ⟨y, rfl⟩ : ∃ y_ : World, y_ = z := ⟨_, rfl⟩)))
  all_goals (first | (refine wpAnyN_two (i := 8) (j := 9) rfl rfl (by decide +kernel) (fun K hK => ?_) (fun K hK => ?_); (go_simp; have HS_ := zaa.mk (HSX.out y HBY.out); refine hK.out _ _ (fun _ => HS_.out) (fun _ => ?_); clear hK K HS_; (try simp only [Act.put, zaj])); rotate_left; (go_simp; obtain ⟨z, hz⟩ : ∃ z, z = y.alloc (.cells #[.slice none 0 0, .slice none 0 0] 26) := ⟨_, rfl⟩; rw [← hz]; have G8 := zaa.mk (show X3.heap.size ≤ y.heap.size from HBY.out.size); have H8 := zaa.mk (show z.heap[y.heap.size]? = some (.cells #[.slice none 0 0, .slice none 0 0] 26 (0, 0)) by rw [hz]; exact heap_alloc_new _ _); (try (have N_ := zaa.mk (Kd.za4 R1.out (.cells #[.slice none 0 0, .slice none 0 0] 26)); rw [← hz] at N_; clear R1; have R1 := N_; clear N_)); (try (have N_ := zaa.mk (Kd.za4 R2.out (.cells #[.slice none 0 0, .slice none 0 0] 26)); rw [← hz] at N_; clear R2; have R2 := N_; clear N_)); (try (have N_ := zaa.mk (zad HBY.out (.cells #[.slice none 0 0, .slice none 0 0] 26)); rw [← hz] at N_; clear HBY; have HBY := N_; clear N_)); have HS_ := zaa.mk (HSX.out z HBY.out); refine hK.out _ _ (fun _ => HS_.out) (fun _ => ?_); clear hK K HS_; (try simp only [Act.put, zaj]); clear hz; obtain ⟨y, rfl⟩ : ∃ y_ : World, y_ = z := ⟨_, rfl⟩); rotate_left) | (refine zaN (i := 7) rfl (by decide +kernel) (fun K hK => ?_); (refine Kd.zbK k43 (w0 := X3) X3.heap.size (by rfl) (.tmp 21) (.tmp 23) 24 43 _ 24 rfl Tryd.underlying24 info43 rfl (by decide) (by omega) _ [] bs _ _ _ (fun q => X3.heap.size ≤ q) (fun _ => False) rfl rfl R2.out (Kd.zaT HB3'.out HBY.out) (fun x cs h => by obtain rfl := k43_open h; exact k43_mkM _ _ _ _) (fun _ h => h.elim) (fun q hq => Nat.le_trans HBY.out.size hq) HBY.out HBY.out.size (by have := HN.out; simp only [List.length_nil]; omega) ?_; intro v_ z ho hb hg hat; rw [List.nil_append] at ho; obtain ⟨A2, c2, rfl, hc_, _⟩ := Kd.R_reads ho; (try (have N_ := zaa.mk (Kd.R_over' R1.out (Kd.zbO R2.out) (by decide) hg); clear R1; have R1 := N_; clear N_)); (try (have N_ := zaa.mk ((hg.block _ (zaO H8.out) (fun e_ => by obtain ⟨cc_, hh_⟩ := Kd.zbO R2.out _ e_.symm; rw [H8.out] at hh_; injection hh_ with hh_; injection hh_ with _ h2_ _; exact absurd h2_ (by decide))).trans H8.out); clear H8; have H8 := N_; clear N_)); clear R2; have R2 := zaa.mk ho; have L2 := zaa.mk hc_; clear HBY; have HBY := zaa.mk hb; clear ho hb hg hat hc_; have HS_ := zaa.mk (HSX.out z HBY.out); refine hK.out _ _ (fun _ => HS_.out) (fun _ => ?_); clear hK K HS_; (try simp only [Act.put, zaj]); obtain ⟨y, rfl⟩ : ∃ y_ : World, y_ = z := ⟨_, rfl⟩)))
  all_goals (first | (refine zaN (i := 8) rfl (by decide +kernel) (fun K hK => ?_); (go_simp; have HS_ := zaa.mk (HSX.out y HBY.out); refine hK.out _ _ (fun _ => HS_.out) (fun _ => ?_); clear hK K HS_; (try simp only [Act.put, zaj]))) | (refine zaN (i := 9) rfl (by decide +kernel) (fun K hK => ?_); (go_simp; obtain ⟨z, hz⟩ : ∃ z, z = y.alloc (.cells #[.slice none 0 0, .slice none 0 0] 26) := ⟨_, rfl⟩; rw [← hz]; have G8 := zaa.mk (show X3.heap.size ≤ y.heap.size from HBY.out.size); have H8 := zaa.mk (show z.heap[y.heap.size]? = some (.cells #[.slice none 0 0, .slice none 0 0] 26 (0, 0)) by rw [hz]; exact heap_alloc_new _ _); (try (have N_ := zaa.mk (Kd.za4 R1.out (.cells #[.slice none 0 0, .slice none 0 0] 26)); rw [← hz] at N_; clear R1; have R1 := N_; clear N_)); (try (have N_ := zaa.mk (Kd.za4 R2.out (.cells #[.slice none 0 0, .slice none 0 0] 26)); rw [← hz] at N_; clear R2; have R2 := N_; clear N_)); (try (have N_ := zaa.mk (zad HBY.out (.cells #[.slice none 0 0, .slice none 0 0] 26)); rw [← hz] at N_; clear HBY; have HBY := N_; clear N_)); have HS_ := zaa.mk (HSX.out z HBY.out); refine hK.out _ _ (fun _ => HS_.out) (fun _ => ?_); clear hK K HS_; (try simp only [Act.put, zaj]); clear hz; obtain ⟨y, rfl⟩ : ∃ y_ : World, y_ = z := ⟨_, rfl⟩)))
  all_goals (have q0 := zaf H8.out 0; have q1 := zaf H8.out 1; have f0 := zab H8.out 0; have f1 := zab H8.out 1; have l8 := zaO H8.out; simp at q0 q1; have HM := zaa.mk (mine_put H8.out HBY.out G8.out R1.out R2.out L1.out L2.out); refine zaN (i := 10) rfl (by kernel_rfl) (fun K hK => ?_); go_simp; have HS_ := zaa.mk (HSX.out _ HM.out.2.2.2.2.2); refine hK.out _ _ (fun _ => HS_.out) (fun _ => ?_); clear hK K HS_; (try simp only [Act.put, zaj]); refine zbb (by kernel_rfl) (NoPanic.normal ?_) _; clear q0 q1 f0 f1; go_wp2_with fail; go_meet; exact ⟨_, _, _, _, _, rfl, HM⟩)
 case rest =>
  obtain ⟨b8, c1, c2, A1, A2, rfl, HM⟩ := hcut; obtain ⟨M, hM⟩ : ∃ M, M = marksOf s ⟨k, w1, wd, l⟩ ds bs := ⟨_, rfl⟩; obtain ⟨F, hF⟩ : ∃ F, F = errOf s ⟨k, w1, wd, l⟩ := ⟨_, rfl⟩; have HML := zaa.mk (show M.length ≤ 1000000 by rw [hM]; exact Nat.le_trans (marksOf_len _ _ _ _) HNN.out)
  rw [← hM, ← hF] at HOF; have HCO := zaa.mk (fun (w : World) (h1 : Kd.C k29 w At l.length l) (h2 : Kd.C k72 w A1 ds.length ds) (h3 : Kd.C k43 w A2 bs.length bs) (h4 : ColTab w) => classOf_callsL s k w1 wd At ct l A1 c1 ds A2 c2 bs w h1 HLT.out h2 h3 HDI.out HBI.out HN.out (by have := HNN.out; omega) HBY.out h4)
  rw [← hM, ← hF] at HCO; obtain ⟨KM, hKM⟩ := msame_refl M (by have := HML.out; omega)
  have HKM := zaa.mk (hKM KM (Nat.le_refl _)); clear hM hF hKM; have HCELL := zaa.mk (fun (w : World) (hw : Below wc.heap.size wc w) => (show (w.cell? ⟨W.heap.size, 0, none⟩ = some (.int .u8 k) ∧ w.cell? ⟨W.heap.size, 1, none⟩ = some (.int .u8 w1) ∧ w.cell? ⟨W.heap.size, 2, none⟩ = some (.int .i64 wd) ∧ w.cell? ⟨W.heap.size, 3, none⟩ = some (.slice A l.length c)) ∧ (w.cell? ⟨W.heap.size + 1, 0, none⟩ = some (.slice Ad ds.length cd) ∧ w.cell? ⟨W.heap.size + 1, 1, none⟩ = some (.slice Ab bs.length cb)) ∧ (w.cell? ⟨w2.heap.size, 0, none⟩ = some (.int .u8 k) ∧ w.cell? ⟨w2.heap.size, 1, none⟩ = some (.int .u8 w1) ∧ w.cell? ⟨w2.heap.size, 2, none⟩ = some (.int .i64 wd) ∧ w.cell? ⟨w2.heap.size, 3, none⟩ = some (.slice At l.length ct)) ∧ (w.cell? ⟨b8, 0, none⟩ = some (.slice A1 ds.length c1) ∧ w.cell? ⟨b8, 1, none⟩ = some (.slice A2 bs.length c2)) from by
   have hwx := zai HM.out.2.2.2.2.2 hw; have g1 := zat HK13.out hwx; have g2 := zat HK23.out hwx; have g3 := zat HK7.out hwx; have g4 := zat HM.out.1 hw; have a0 := zaf g1 0; have a1 := zaf g1 1; have a2 := zaf g1 2; have a3 := zaf g1 3; have b0 := zaf g2 0; have b1 := zaf g2 1; have d0 := zaf g3 0; have d1 := zaf g3 1; have d2 := zaf g3 2; have d3 := zaf g3 3; have e0 := zaf g4 0; have e1 := zaf g4 1; simp at a0 a1 a2 a3 b0 b1 d0 d1 d2 d3 e0 e1; exact ⟨⟨a0, a1, a2, a3⟩, ⟨b0, b1⟩, ⟨d0, d1, d2, d3⟩, ⟨e0, e1⟩⟩))
  have HRC := zaa.mk (fun (w : World) (hw : Below wc.heap.size wc w) => (show Kd.C k29 w A l.length l ∧ Kd.C k72 w Ad ds.length ds ∧ Kd.C k43 w Ab bs.length bs ∧ Kd.C k29 w At l.length l ∧ Kd.C k72 w A1 ds.length ds ∧ Kd.C k43 w A2 bs.length bs ∧ ColTab w from
   have hwx := zai HM.out.2.2.2.2.2 hw; have hww := zai HBV3.out hwx
   ⟨Kd.zaT HR.out hww, Kd.zaT HD.out hww, Kd.zaT HB.out hww, Kd.zaT HCT3.out hwx, Kd.zaT HM.out.2.1 hw, Kd.zaT HM.out.2.2.1 hw, HTAB.out.below hww⟩))
  have HWC := zaa.mk (zai HBV3.out HM.out.2.2.2.2.2); have HL1 := zaa.mk HM.out.2.2.2.1; have HL2 := zaa.mk HM.out.2.2.2.2.1; clear HM HK13 HK23 HK7 HCT3 HD3 HB3' HK1 HK2 HBV; obtain ⟨⟨a0, a1, a2, a3⟩, ⟨b0, b1⟩, _, _⟩ := HCELL.out wc (Below.refl _ _); go_upto_region 4 with (go_at_call 12; refine (HOF.out wc (HRC.out wc (Below.refl _ _)).1 (HRC.out wc (Below.refl _ _)).2.1 (HRC.out wc (Below.refl _ _)).2.2.1).mono ?_; rintro e w5 ⟨vw, rfl, hRw, hb5⟩; obtain ⟨Aw, cw, rfl, hcw, hCw⟩ := Kd.R_reads hRw; have HCW := zaa.mk hCw; have HLW := zaa.mk hcw; have HB5 := zaa.mk hb5; clear hRw hb5 hCw hcw a0 a1 a2 a3 b0 b1)
  go_wp2_with fail
  go_loopg [11] 2 (fun kq v11 w' => ∃ i : Nat, v11 = .int .i64 i ∧ i ≤ 2 ∧ zaa (kq = 2 - i) ∧ zaa (Below w5.heap.size w5 w'))
  case atStart => exact ⟨0, rfl, by omega, ⟨rfl⟩, ⟨Below.refl _ _⟩⟩
  case round =>
   obtain ⟨i, rfl, hi, HK, HBW⟩ := hrel; by_cases hlt : i < 2
   ·have HW := zaa.mk (zai HB5.out HBW.out)
    obtain ⟨_, _, ⟨d0, d1, d2, d3⟩, ⟨e0, e1⟩⟩ := HCELL.out wr HW.out; obtain ⟨_, _, _, q4, q5, q6, q7⟩ := HRC.out wr HW.out; have HCL := zaa.mk (HCO.out wr q4 q5 q6 q7); clear q4 q5 q6 q7; go_upto_region 8 with (go_at_call 13; refine HCL.out.mono ?_; rintro e w6 ⟨vl, rfl, hRl, hb6⟩; obtain ⟨Al, cl, rfl, hcl, _⟩ := Kd.R_reads hRl; have HRL := zaa.mk hRl; have HLL := zaa.mk hcl; have HB6 := zaa.mk hb6; clear hRl hb6 hcl d0 d1 d2 d3 e0 e1)
    have HW6 := zaa.mk (zai HW.out HB6.out); obtain ⟨⟨a0, a1, a2, a3⟩, ⟨b0, b1⟩, ⟨d0, d1, d2, d3⟩, ⟨e0, e1⟩⟩ := HCELL.out w6 HW6.out; go_wp2_with (first | (go_at_call 14; refine (za5.calls KM Al cl M Aw cw M true w6 (Kd.za0 HRL.out).2.2 HLL.out (Kd.zaT HCW.out (zai HBW.out HB6.out)) HLW.out HKM.out).mono ?_; rintro e w7 ⟨rfl, hd_⟩; have HB7 := zaa.mk hd_.below; clear hd_ a0 a1 a2 a3 b0 b1 d0 d1 d2 d3 e0 e1; have HW7 := zaa.mk (zai HW6.out HB7.out); obtain ⟨⟨a0, a1, a2, a3⟩, ⟨b0, b1⟩, ⟨d0, d1, d2, d3⟩, ⟨e0, e1⟩⟩ := HCELL.out w7 HW7.out) | (go_at_call 15; refine (rself_calls _ (⟨k, w1, wd, l⟩ : S29) (Nat.lt_succ_self _) (by have := HNN.out; omega) At A ct c w7 HLT.out HC.out (HRC.out w7 HW7.out).2.2.2.1 (HRC.out w7 HW7.out).1).mono ?_; rintro e w8 ⟨rfl, hd_⟩; have HB8 := zaa.mk hd_; clear hd_ a0 a1 a2 a3 b0 b1 d0 d1 d2 d3 e0 e1; have HW8 := zaa.mk (zai HW7.out HB8.out); obtain ⟨_, ⟨b0, b1⟩, _, ⟨e0, e1⟩⟩ := HCELL.out w8 HW8.out) | (go_at_call 16; refine (rnames_calls A1 A2 Ad Ab c1 c2 cd cb ds bs w8 (HRC.out w8 HW8.out).2.2.2.2.1 (HRC.out w8 HW8.out).2.2.2.2.2.1 (HRC.out w8 HW8.out).2.1 (HRC.out w8 HW8.out).2.2.1 HN.out).mono ?_; rintro e w9 ⟨rfl, hd_⟩; have HB9 := zaa.mk hd_; clear hd_ b0 b1 e0 e1))
    have HB69 := zaa.mk (zai HB7.out (zai HB8.out HB9.out)); have HR9 := zaa.mk (Kd.zbm HRL.out HB69.out); have HBW9 := zaa.mk (zai HBW.out (zai HB6.out HB69.out)); have HSZ := zaa.mk (show w5.heap.size ≤ wr.heap.size from HBW.out.size)
    have hum := Tryd.underlying57; obtain ⟨wo, hwo⟩ : ∃ wo, wo = wr.heap.size := ⟨_, rfl⟩; rw [← hwo] at HR9 HSZ; go_loopg [14] M.length (fun kj v14 w' => ∃ (j : Nat) (l' : List S57), v14 = .int .i64 j ∧ j ≤ M.length ∧ zaa (kj = M.length - j) ∧ zaa (Kd.R k57 57 w' wo (fun _ => True) (.slice Al M.length cl) l') ∧ zaa (Below w5.heap.size w5 w'))
    case atStart => exact ⟨0, M, rfl, Nat.zero_le _, ⟨rfl⟩, HR9, HBW9⟩
    case round =>
     obtain ⟨j, l', rfl, hj, HKJ, HRR, HBJ⟩ := hrel; have hml := HML.out; by_cases hjn : j < M.length
     ·have hln := (Kd.za0 HRR.out).1
      obtain ⟨g, cap, hv, hgb, hgl2, _⟩ := Kd.R_form HRR.out (by omega)
      injection hv with hv1 hv2 hv3
      subst hv1; obtain ⟨ce, hcl, hMM, hcc, hfr⟩ := Kd.R_elem HRR.out z57 (j : Int) (by omega) (by omega)
      obtain rfl := k57_openM hMM; have HP := zaa.mk (Kd.R_seg HRR.out (j : Int) (by omega) (by omega) (seg := [.int .i64 0, .int .i64 0, .int .i64 99, .int .i64 0]) (j := 0) hcl hcc (show 4 ≤ 4 from by decide) (x' := (⟨⟨0, 0⟩, 99, 0⟩ : S57)) (k57_mkM _ _ _ (⟨⟨0, 0⟩, 99, 0⟩ : S57)) (fun _ hk => hk))
      simp only [show (k57).sz = 4 from rfl, Int.toNat_natCast] at hcc hfr HP
      have x0 := hcc 0 _ rfl; have x1 := hcc 1 _ rfl; have x2 := hcc 2 _ rfl; have x3 := hcc 3 _ rfl; have f0 := hfr 0; have f1 := hfr 1; have f2 := hfr 2; have f3 := hfr 3; simp only [Nat.add_zero] at x0 f0; have HGB := zaa.mk hgb; clear hv2 hv3 hcl hMM hcc hfr hln; go_wp2
      go_roundg (M.length - (j + 1))
      case measure => have := HKJ.out; omega
      case rel => exact ⟨j + 1, _, by go_num, by omega, ⟨rfl⟩, ⟨HP.out.1⟩, ⟨(((HBJ.out.setCell (Nat.le_trans HSZ.out HGB.out) _).setCell (Nat.le_trans HSZ.out HGB.out) _).setCell (Nat.le_trans HSZ.out HGB.out) _).setCell (Nat.le_trans HSZ.out HGB.out) _⟩⟩
     ·have hie : j = M.length := by omega
      subst hie; go_wp2_with fail
      go_roundg (2 - (i + 1))
      case measure => have := HK.out; omega
      case rel => exact ⟨i + 1, by go_num, by omega, ⟨rfl⟩, HBJ⟩
   ·have hie : i = 2 := by omega
    subst hie; go_wp2_with fail
    go_ret
    exact ⟨rfl, zai HWC.out (zai HB5.out HBW.out)⟩
theorem rd_bounds {l : List S63} (h : ∀ t ∈ l, 0 ≤ t.f0 ∧ t.f0 ≤ 255) (i : Nat) (hi : i < l.length) : 0 ≤ (zbI l i).f0 ∧ (zbI l i).f0 ≤ 255 := by
 have e : zbI l (i : Int) = l[i] := by
  unfold zbI
  rw [Int.toNat_natCast, List.getD_eq_getElem?_getD, List.getElem?_eq_getElem hi]
  rfl
 rw [e]; exact h _ (List.getElem_mem hi)
theorem nv_tree {b : Nat} {ok : Nat → Prop} {W : World} {k w wd : Int} {v : Value} {l : List S29} {N : Nat} (h : NV b ok W k w wd v l N) : byteT ⟨k, w, wd, l⟩ ∧ tsize ⟨k, w, wd, l⟩ ≤ N := by
 refine ⟨by simp only [byteT]; exact ⟨h.kb, h.wb, h.lb⟩, ?_⟩
 have := h.size; simp only [tsize]; omega
def inR (n a b : Int) : Prop := (0 ≤ a ∧ a ≤ n) ∧ 0 ≤ b ∧ b ≤ n
theorem findS_in {L : List Sn} {s : ByteArray} {n : Int} (h : SnOk L n) : ∀ i, i ≤ L.length → (∀ d ∈ (findS L s i).1, inR n d.f d.t) ∧ (∀ u ∈ (findS L s i).2, inR n u.1 u.2.1)
 | 0, _ => by simp [findS]
 | i + 1, hi => by
  obtain ⟨x, hx⟩ : ∃ x, L[i]? = some x := ⟨_, List.getElem?_eq_getElem (by omega)⟩
  obtain ⟨h1, h2⟩ := findS_in h i (by omega)
  have hs := h.sp i x hx; have hr : inR n x.2.1 (x.2.1 + x.1.wd) := ⟨⟨by omega, by omega⟩, by omega, by omega⟩
  rw [findS_step hx]; unfold stepD
  split
  ·split
   ·exact ⟨h1, h2⟩
   ·split
    ·refine ⟨h1, fun u hu => ?_⟩
     rcases List.mem_append.1 hu with hu | hu
     ·exact h2 u hu
     ·obtain rfl := List.mem_singleton.1 hu
      exact hr
    ·split
     ·refine ⟨fun d hd => ?_, h2⟩
      rcases List.mem_append.1 hd with hd | hd
      ·exact h1 d hd
      ·obtain rfl := List.mem_singleton.1 hd
       exact hr
     ·exact ⟨h1, h2⟩
  ·exact ⟨h1, h2⟩
theorem of20_in (s : ByteArray) (T : AT) (hb : byteT T.erase) (hn : nT T ≤ 1000000) (hs : s.size ≤ 1099511627776) : inDs (of20 s T).1 ∧ inBs (of20 s T).2.1 ∧ (of20 s T).1.length + (of20 s T).2.1.length ≤ 1000000 := by
 unfold of20
 by_cases hm : mayB s T.erase = true
 ·rw [if_pos hm]
  unfold mayB at hm
  simp only [Bool.and_eq_true, decide_eq_true_eq] at hm; obtain ⟨⟨ha, hw⟩, hc⟩ := hm; have hf0 : T.erase.f0 = T.k := by cases T; rfl
  have hf2 : T.erase.f2 = T.wd := by cases T; rfl
  have hok := seen_ok T (ok_good _ hb hc) (by rw [← hf0]; exact ha)
  rw [← hf2, hw] at hok; obtain ⟨h1, h2⟩ := findS_in (s := s) hok _ (Nat.le_refl _); have h3 := findS_len (seenT T 0 (-1) 0) s _ (Nat.le_refl _); rw [seenT_len] at h3; have hI : ∀ a, 0 ≤ a ∧ a ≤ (s.size : Int) → inI a := fun a h => by unfold inI; omega
  refine ⟨fun d hd => ?_, fun d hd => ?_, ?_⟩
  ·obtain ⟨c, hc, rfl⟩ := List.mem_map.1 hd
   exact ⟨hI _ (h1 c hc).1, hI _ (h1 c hc).2⟩
  ·obtain ⟨c, hc, rfl⟩ := List.mem_map.1 hd
   exact ⟨hI _ (h2 c hc).1, hI _ (h2 c hc).2⟩
  ·simp only [List.length_map]
   rw [seenT_len] at *; omega
 ·rw [if_neg hm]
  exact ⟨fun d hd => (by cases hd), fun d hd => (by cases hd), by simp⟩
def told (bs : List S43) (i : Nat) (df : Int) : List S43 := match bs[i]? with | some b => bs.set i ⟨b.f0, df⟩ | none => bs
theorem told_len (bs : List S43) (i : Nat) (df : Int) : (told bs i df).length = bs.length := by unfold told; split <;> simp
theorem told_in {bs : List S43} (h : inBs bs) (i : Nat) (df : Int) : inBs (told bs i df) := by
 unfold told
 split
 ·rename_i b hb
  intro d hd
  rcases List.mem_or_eq_of_mem_set hd with hd | rfl
  ·exact h d hd
  ·exact h b (List.mem_of_getElem? hb)
 ·exact h
theorem texts_law (s : ByteArray) (wh df : Int) (W : World) (htab : ColTab W) :
  Calls Tryd.prog 4 #[.string s, .int .i64 wh, .int .i64 df] W fun e W' => e = .returned (.bool true) ∧ Below W.heap.size W W' := by
 have HTAB := zaa.mk htab; have hu := Tryd.underlying29; have hum := Tryd.underlying26; have hub := Tryd.underlying43; clear htab; by_cases hl : 3000 < s.size
 ·have hl' : (3000 : Int) < (s.size : Int) := by omega
  go_enter Tryd.func4, Tryd.ntmps4
  go_wp2
  go_ret
  exact ⟨rfl, Below.refl _ _⟩
 have hl' : ¬ (3000 : Int) < (s.size : Int) := by omega
 obtain ⟨K, lt, hK, hlen, hkinds⟩ := lex_all s (by omega)
 have HLX := zaa.mk hK; have HLN := zaa.mk hlen; have HKI := zaa.mk (rd_bounds hkinds); clear hK hlen hkinds; go_enter Tryd.func4, Tryd.ntmps4
 go_upto_region 4 with (first | (go_at_call 8; refine (za2.calls K s lt W HLX.out).mono ?_; rintro e w1 ⟨v1, rfl, hR, hB1⟩; obtain ⟨A1, c1, rfl, hc1, hC1⟩ := Kd.R_reads hR; have HB1 := zaa.mk hB1; have HC1 := zaa.mk hC1; have HK1 := zaa.mk hc1; clear hR hB1 hC1 hc1) | (go_at_call 7; refine (file_calls A1 c1 lt w1 HC1.out HK1.out HLN.out HKI.out).mono ?_; rintro e w2 ⟨v, er, rfl, k, w, wd, u, l, rfl, hN, hB⟩; obtain ⟨A2, c2, rfl, hc2, hC2⟩ := Kd.zaL hN.row; have HT := zaa.mk (nv_tree hN); have HB := zaa.mk (HB1.out.trans (hB.mono HB1.out.size)); have HC2 := zaa.mk hC2; have HK2 := zaa.mk hc2; clear hN hB hC2 hc2))
 have hb3 : Below w2.heap.size w2 (w2.alloc (nodeO k w wd (.slice A2 l.length c2))) := zad (Below.refl _ _) _; have HB3 := zaa.mk (HB.out.trans (hb3.mono HB.out.size)); have HC3 := zaa.mk (Kd.zaT HC2.out hb3); obtain ⟨b7, hb7⟩ : ∃ b7, b7 = w2.heap.size := ⟨_, rfl⟩; have HK7 := zaa.mk (heap_alloc_new w2 (nodeO k w wd (.slice A2 l.length c2))); obtain ⟨Y, hY⟩ : ∃ Y, Y = w2.alloc (nodeO k w wd (.slice A2 l.length c2)) := ⟨_, rfl⟩; rw [← hY, ← hb7] at HK7; rw [← hY] at HB3 HC3; change Code.wp Tryd.prog _ _ _ (w2.alloc (nodeO k w wd (.slice A2 l.length c2)))
 rw [← hY, ← hb7]; clear hY hb3 hb7; obtain ⟨kids, hke, hAT⟩ := exists_AT Y _ ⟨k, w, wd, l⟩ (Nat.lt_succ_self _) A2 c2 HK2.out HC3.out; simp only at hke hAT; have hkl : l.length = kids.length := by rw [← hke, zbp]
 have hera : (AT.node k w wd A2 c2 kids).erase = ⟨k, w, wd, l⟩ := by simp only [AT.erase, hke]
 have hnT : nT (AT.node k w wd A2 c2 kids) ≤ 1000000 := by rw [nT_eq, hera]; have := HT.out.2; omega
 have hcall := of20_calls s (.node k w wd A2 c2 kids) Y hAT (by rw [hera]; exact HT.out.1) hnT (by omega)
 obtain ⟨hid, hib, hnn⟩ := of20_in s (.node k w wd A2 c2 kids) (by rw [hera]; exact HT.out.1) hnT (by omega)
 obtain ⟨ds, hds⟩ : ∃ ds, ds = (of20 s (.node k w wd A2 c2 kids)).1 := ⟨_, rfl⟩; obtain ⟨bs, hbs⟩ : ∃ bs, bs = (of20 s (.node k w wd A2 c2 kids)).2.1 := ⟨_, rfl⟩; obtain ⟨er3, her3⟩ : ∃ er3, er3 = (of20 s (.node k w wd A2 c2 kids)).2.2 := ⟨_, rfl⟩; rw [← hds, ← hbs, ← her3] at hcall; rw [← hds] at hid hnn; rw [← hbs] at hib hnn; simp only [AT.val, AT.k, AT.w, AT.wd, AT.A, AT.c, AT.kids] at hcall; rw [← hkl] at hcall; have HID := zaa.mk hid; have HIB := zaa.mk hib; have HNN := zaa.mk hnn; clear hke hAT hkl hera hnT hds hbs her3 hid hib hnn; obtain ⟨x0, x1, x2, x3⟩ := (zaC HK7.out).1; go_upto_region 5 with (go_at_call 9; refine hcall.mono ?_; rintro e w4 ⟨vd, vb, rfl, hb4, hRd, hRb⟩; obtain ⟨Ad, cd, ed⟩ := Kd.zbo hRd; obtain ⟨Ab, cb, eb⟩ := Kd.zbo hRb; subst ed; subst eb; have HB4 := zaa.mk hb4; have HRD := zaa.mk hRd; have HRB := zaa.mk hRb; clear hcall hb4 hRd hRb x0 x1 x2 x3)
 obtain ⟨b9, hb9⟩ : ∃ b9, b9 = w4.heap.size := ⟨_, rfl⟩; have HK9 := zaa.mk (heap_alloc_new w4 (.cells #[.slice Ad ds.length cd, .slice Ab bs.length cb] 26)); obtain ⟨Z, hZ⟩ : ∃ Z, Z = w4.alloc (.cells #[.slice Ad ds.length cd, .slice Ab bs.length cb] 26) := ⟨_, rfl⟩; have HB5 := zaa.mk (show Below w4.heap.size w4 Z by rw [hZ]; exact zad (Below.refl _ _) _)
 rw [← hZ, ← hb9] at HK9; change Code.wp Tryd.prog _ _ _ (w4.alloc (.cells #[.slice Ad ds.length cd, .slice Ab bs.length cb] 26))
 rw [← hZ, ← hb9]; clear hZ hb9; have HWY := zaa.mk (show Below W.heap.size W Y from HB3.out)
 have HBYZ := zaa.mk (zai HB4.out HB5.out); have HRDZ := zaa.mk (Kd.zbm HRD.out HB5.out); have HRBZ := zaa.mk (Kd.zbm HRB.out HB5.out); have HK7Z := zaa.mk (zat HK7.out HBYZ.out); have HCZ := zaa.mk (Kd.zaT HC3.out HBYZ.out); have HTZ := zaa.mk (HTAB.out.below (zai HB3.out HBYZ.out)); have HWZ := zaa.mk (zai HB3.out HBYZ.out); have HMK := zaa.mk (fun (t : ByteArray) (bs' : List S43) (hbi : inBs bs') (hbl : bs'.length = bs.length) (V : World) (hC : Kd.C k29 V A2 l.length l) (hD : Kd.C k72 V Ad ds.length ds) (hDc : ds.length ≤ cd) (hBb : Kd.C k43 V Ab bs'.length bs') (hBc : bs'.length ≤ cb) (hT : ColTab V) => marked_calls t k w wd A2 c2 l Ad cd ds Ab cb bs' V hC HK2.out hD hDc hBb hBc HID.out hbi (by rw [hbl]; exact HNN.out) (by have := HT.out.2; omega) HT.out.1 hT)
 clear HC1 HC2 HB1 HB HRD HRB HK7 HK1 HB4 HB5 HB3; have h7_ := HK7Z.out; have h9_ := HK9.out; obtain ⟨x0, x1, x2, x3⟩ := (zaC h7_).1; have n0 := zaf h9_ 0; have n1 := zaf h9_ 1; have l9 := zaO h9_; simp at n0 n1; clear h7_ h9_; go_upto_region 7 with (go_at_call 6; refine (HMK.out s bs HIB.out rfl Z HCZ.out (Kd.za0 HRDZ.out).2.2 (Kd.za0 HRDZ.out).2.1 (Kd.za0 HRBZ.out).2.2 (Kd.za0 HRBZ.out).2.1 HTZ.out).mono ?_; rintro e w6 ⟨rfl, hb6⟩; have HB6 := zaa.mk hb6; have h7_ := zat HK7Z.out hb6; have h9_ := zat HK9.out hb6; clear x0 x1 x2 x3 n0 n1 l9; obtain ⟨x0, x1, x2, x3⟩ := (zaC h7_).1; have n0 := zaf h9_ 0; have n1 := zaf h9_ 1; have l9 := zaO h9_; simp at n0 n1; clear h7_ h9_; clear hb6)
 have HRD6 := zaa.mk (Kd.zbm HRDZ.out HB6.out); have HRB6 := zaa.mk (Kd.zbm HRBZ.out HB6.out); have HK76 := zaa.mk (zat HK7Z.out HB6.out); have HK96 := zaa.mk (zat HK9.out HB6.out); have HC6 := zaa.mk (Kd.zaT HCZ.out HB6.out); have HT6 := zaa.mk (HTZ.out.below HB6.out); have HW6 := zaa.mk (zai HWZ.out HB6.out); by_cases hw0 : wh < 0
 ·have d0 : decide (wh ≥ 0) = false := decide_eq_false (by omega)
  go_wp2_with (first | (go_at_call 6; refine (HMK.out _ bs HIB.out rfl w7 (Kd.zaT HC6.out HB7.out) (Kd.za0 (Kd.zbm HRD6.out HB7.out)).2.2 (Kd.za0 HRD6.out).2.1 (Kd.za0 (Kd.zbm HRB6.out HB7.out)).2.2 (Kd.za0 HRB6.out).2.1 (HT6.out.below HB7.out)).mono ?_; rintro e w8 ⟨rfl, hb8⟩; have HB8 := zaa.mk hb8; clear hb8 x0 x1 x2 x3 n0 n1 l9) | (go_at_call 6; refine (HMK.out s bs HIB.out rfl w6 HC6.out (Kd.za0 HRD6.out).2.2 (Kd.za0 HRD6.out).2.1 (Kd.za0 HRB6.out).2.2 (Kd.za0 HRB6.out).2.1 HT6.out).mono ?_; rintro e w7 ⟨rfl, hb7⟩; have HB7 := zaa.mk hb7; have h7_ := zat HK76.out hb7; have h9_ := zat HK96.out hb7; clear x0 x1 x2 x3 n0 n1 l9; obtain ⟨x0, x1, x2, x3⟩ := (zaC h7_).1; have n0 := zaf h9_ 0; have n1 := zaf h9_ 1; have l9 := zaO h9_; simp at n0 n1; clear h7_ h9_; clear hb7))
  go_ret
  exact ⟨rfl, zai (zai HW6.out HB7.out) HB8.out⟩
 have d0 : decide (wh ≥ 0) = true := decide_eq_true (by omega)
 by_cases hwl : (bs.length : Int) ≤ wh
 ·have d1 : decide (wh < (bs.length : Int)) = false := decide_eq_false (by omega)
  go_wp2_with (first | (go_at_call 6; refine (HMK.out _ bs HIB.out rfl w7 (Kd.zaT HC6.out HB7.out) (Kd.za0 (Kd.zbm HRD6.out HB7.out)).2.2 (Kd.za0 HRD6.out).2.1 (Kd.za0 (Kd.zbm HRB6.out HB7.out)).2.2 (Kd.za0 HRB6.out).2.1 (HT6.out.below HB7.out)).mono ?_; rintro e w8 ⟨rfl, hb8⟩; have HB8 := zaa.mk hb8; clear hb8 x0 x1 x2 x3 n0 n1 l9) | (go_at_call 6; refine (HMK.out s bs HIB.out rfl w6 HC6.out (Kd.za0 HRD6.out).2.2 (Kd.za0 HRD6.out).2.1 (Kd.za0 HRB6.out).2.2 (Kd.za0 HRB6.out).2.1 HT6.out).mono ?_; rintro e w7 ⟨rfl, hb7⟩; have HB7 := zaa.mk hb7; have h7_ := zat HK76.out hb7; have h9_ := zat HK96.out hb7; clear x0 x1 x2 x3 n0 n1 l9; obtain ⟨x0, x1, x2, x3⟩ := (zaC h7_).1; have n0 := zaf h9_ 0; have n1 := zaf h9_ 1; have l9 := zaO h9_; simp at n0 n1; clear h7_ h9_; clear hb7))
  go_ret
  exact ⟨rfl, zai (zai HW6.out HB7.out) HB8.out⟩
 obtain ⟨i, rfl⟩ : ∃ i : Nat, wh = i := ⟨wh.toNat, by omega⟩
 have hil : i < bs.length := by omega
 have d1 : decide ((i : Int) < (bs.length : Int)) = true := decide_eq_true (by omega)
 obtain ⟨b, hb⟩ : ∃ b, bs[i]? = some b := ⟨_, List.getElem?_eq_getElem hil⟩; obtain ⟨g2, cap2, hv, hgb, hgl2, cg, hcg⟩ := Kd.R_form HRB6.out (by omega)
 injection hv with hv1 hv2 hv3
 subst hv1; subst hv3; obtain ⟨ce, hcl, hMM, hcc, hfr⟩ := Kd.R_elem HRB6.out z43 (i : Int) (by omega) (by omega)
 have hrd : bs.getD (i : Int).toNat z43 = b := by rw [Int.toNat_natCast, List.getD_eq_getElem?_getD, hb]; rfl
 rw [hrd] at hMM; have hce := k43_openM hMM; have hseg := Kd.R_seg HRB6.out (i : Int) (by omega) (by omega) (seg := [.int .i64 df]) (j := 2) hcl hcc (show 2 + 1 ≤ 3 from by decide) (x' := ⟨b.f0, df⟩) (okp := fun _ => False) (by rw [hce]; exact k43_mkM _ _ _ _) (fun _ hk => hk.elim)
 simp only [show (k43).sz = 3 from rfl, Int.toNat_natCast] at hcc hfr hseg
 have y2 : w6.cell? ⟨g2, i * 3 + 2, none⟩ = some (.int .i64 b.f1) := hcc 2 _ (by rw [hce]; rfl)
 have f2 := hfr 2; have HTL := zaa.mk (show bs.set i ⟨b.f0, df⟩ = told bs i df by unfold told; rw [hb])
 have HSEG := zaa.mk hseg; have HGB := zaa.mk hgb; have HCG := zaa.mk hcg; have HK7' := zaa.mk (show w6.heap[b7]? = some (.cells #[.int .u8 k, .int .u8 w, .int .i64 wd, .slice A2 l.length c2] 29 (0, 0)) from HK76.out)
 have HY6 := zaa.mk (zai HBYZ.out HB6.out); have HBV := zaa.mk (show Below Y.heap.size Y (w6.setCell ⟨g2, i * 3 + 2, none⟩ (.int .i64 df)) from HY6.out.setCell hgb _)
 have HWV := zaa.mk (show Below W.heap.size W (w6.setCell ⟨g2, i * 3 + 2, none⟩ (.int .i64 df)) from HW6.out.setCell (Nat.le_trans HWY.out.size hgb) _)
 have HRBV := zaa.mk (show Kd.R k43 43 (w6.setCell ⟨g2, i * 3 + 2, none⟩ (.int .i64 df)) Y.heap.size (fun q => Y.heap.size ≤ q) (.slice (some ⟨g2, 0, none⟩) (told bs i df).length cb) (told bs i df) by have h := HSEG.out.1; rw [HTL.out] at h; rw [told_len]; exact h)
 have HRDV := zaa.mk (Kd.R_set HRD6.out hcg (by decide) (i * 3 + 2) (.int .i64 df))
 have HK7V := zaa.mk (zb3 (p := ⟨g2, i * 3 + 2, none⟩) HK7'.out (typed_ne HK7'.out hcg (by decide)) (.int .i64 df))
 have HK9V := zaa.mk (zb3 (p := ⟨g2, i * 3 + 2, none⟩) HK96.out (typed_ne HK96.out hcg (by decide)) (.int .i64 df))
 have HCV := zaa.mk (Kd.zaT HC3.out HBV.out); have HTV := zaa.mk (HTAB.out.below HWV.out); have HIV := zaa.mk (told_in HIB.out i df); clear hseg hcc hfr hMM hce hcl hcg hgb hgl2 hb hrd hv2; go_upto_region 9 with (fail)
 obtain ⟨V, hV⟩ : ∃ V, V = w6.setCell ⟨g2, i * 3 + 2, none⟩ (.int .i64 df) := ⟨_, rfl⟩; rw [← hV] at HRBV HRDV HK7V HK9V HCV HTV HWV; change Code.wp Tryd.prog _ _ _ (w6.setCell ⟨g2, i * 3 + 2, none⟩ (.int .i64 df))
 rw [← hV]; clear hV x0 x1 x2 x3 n0 n1 l9 y2 f2; have h7_ := HK7V.out; have h9_ := HK9V.out; obtain ⟨x0, x1, x2, x3⟩ := (zaC h7_).1; have n0 := zaf h9_ 0; have n1 := zaf h9_ 1; have l9 := zaO h9_; simp at n0 n1; clear h7_ h9_; have htl := told_len bs i df; have HMV := zaa.mk (fun (t : ByteArray) (V : World) (hC : Kd.C k29 V A2 l.length l) (hD : Kd.C k72 V Ad ds.length ds) (hDc : ds.length ≤ cd) (hBb : Kd.C k43 V (some ⟨g2, 0, none⟩) (told bs i df).length (told bs i df)) (hBc : bs.length ≤ cb) (hT : ColTab V) => (show Calls Tryd.prog 6 #[.string t, .agg #[.int .u8 k, .int .u8 w, .int .i64 wd, .slice A2 l.length c2], .agg #[.slice Ad ds.length cd, .slice (some ⟨g2, 0, none⟩) bs.length cb]] V fun e W' => e = .returned (.bool true) ∧ Below V.heap.size V W' from by
  have h := HMK.out t (told bs i df) HIV.out htl V hC hD hDc hBb (by rw [htl]; exact hBc) hT
  rw [htl] at h; exact h))
 rw [htl] at HRBV; clear htl; go_wp2_with (first | (go_at_call 6; refine (HMV.out _ w7 (Kd.zaT HCV.out HB7.out) (Kd.za0 (Kd.zbm HRDV.out HB7.out)).2.2 (Kd.za0 HRDV.out).2.1 (Kd.za0 (Kd.zbm HRBV.out HB7.out)).2.2 (Kd.za0 HRBV.out).2.1 (HTV.out.below HB7.out)).mono ?_; rintro e w8 ⟨rfl, hb8⟩; have HB8 := zaa.mk hb8; clear hb8 x0 x1 x2 x3 n0 n1 l9) | (go_at_call 6; refine (HMV.out s V HCV.out (Kd.za0 HRDV.out).2.2 (Kd.za0 HRDV.out).2.1 (Kd.za0 HRBV.out).2.2 (Kd.za0 HRBV.out).2.1 HTV.out).mono ?_; rintro e w7 ⟨rfl, hb7⟩; have HB7 := zaa.mk hb7; have h7_ := zat HK7V.out hb7; have h9_ := zat HK9V.out hb7; clear x0 x1 x2 x3 n0 n1 l9; obtain ⟨x0, x1, x2, x3⟩ := (zaC h7_).1; have n0 := zaf h9_ 0; have n1 := zaf h9_ 1; have l9 := zaO h9_; simp at n0 n1; clear h7_ h9_; clear hb7))
 go_ret
 exact ⟨rfl, zai (zai HWV.out HB7.out) HB8.out⟩
end Go.Proofs.YtobgkpnigjfhmaaDoor.H
