import Derived.Test.YtceddikbmbadlaaQHTreeWalk
import Derived.Test.YtceddikbmbadlaaQHRound
set_option linter.unusedVariables false
set_option linter.unusedSimpArgs false
namespace Go.Proofs.Ytceddikbmbadlaa.H
open Go.RowKit Go.Shelf Go.Proofs.YtceddikbmbadlaaW.PrintWords Go.Proofs.YtceddikbmbadlaaW.PrintLast Go.Proofs.YtceddikbmbadlaaW.PrintMore
attribute [local go_sem] Oper.semAt_some
def faultB (k : Int) : Bool := k == 50 || k == 68 || k == 5 || k == 9 || k == 4
def wantOf (k w : Int) : Int := if k = 50 then w else 0
def faultV (x : AT × Int × Int) : Value := .agg #[.int .i64 x.2.1, .int .i64 (wrap64 (x.2.1 + x.1.wd)), .int .u8 x.1.k, .int .u8 (wantOf x.1.k x.1.w)]
set_option maxHeartbeats 1000000 in
theorem each_in (n : Nat) (k w1 wd : Int) (A : Option Addr) (m c : Nat) (w : World) :
    CallsIn Fence.wide n Try.prog 20 #[.agg #[.int .u8 k, .int .u8 w1, .int .i64 wd, .slice A m c]] w fun e w' => e = .returned (.func (.func 41) #[] #[.pointer (some ⟨w.heap.size, 0, none⟩)]) ∧ w' = w.alloc (boxN k w1 wd A m c) := by
  refine callsIn_of_wp Try.func20 rfl trivial ?_ rfl
  simp only [Try.ntmps20, List.size_toArray, List.length_cons, List.length_nil, Nat.reduceAdd, Nat.reduceSub, Array.replicate_succ, Array.replicate_zero, List.push_toArray, List.append_toArray, List.nil_append, List.cons_append]
  gi_wp2
  go_ret
  exact ⟨rfl, rfl⟩
set_option maxHeartbeats 4000000 in
set_option maxRecDepth 100000 in
theorem each_stops (W0 : World) (n0 B : Nat) (hn0 : n0 = W0.heap.size) (hB : n0 ≤ B) (bx : List Nat) (hbx : ∀ b ∈ bx, b < B) (nb : Nat) (T : AT) (w : World) (hT : AtT W0 T) (hlow : Below n0 W0 w) (hnb : w.heap[nb]? = some (boxN T.k T.w T.wd T.A T.kids.length T.c)) :
    SeqStopsO Try.prog 41 #[.pointer (some ⟨nb, 0, none⟩)] (fun x : Told W0 => #[faultV x.1]) (Kp n0 B bx) (fun W => Valid bx W ∧ B + 2 ≤ W.heap.size) (fun ys => ys.map (·.1) = T.all.filter fun x => faultB x.1.k) (fun pre => pre.map (·.1) <+: T.all.filter fun x => faultB x.1.k) w := by
  intro n l J Jx W hW hJ hJx hJV0 hY h0
  have hJV : ∀ pre W, J pre W → Valid bx W := fun pre W h => (hJV0 pre W h).1
  have hnbW := blk_below hnb hW
  have hlowW : Below n0 W0 W := hlow.trans (hW.mono (by rw [hn0]; have := hlow.size; exact this))
  have hBW : B + 2 ≤ W.heap.size := (hJV0 _ _ h0).2
  clear hJV0
  obtain ⟨W1, hW1⟩ : ∃ W1, W1 = W.alloc (.cells #[.func (.yield l) #[] #[]] 78) := ⟨_, rfl⟩
  have hb1 : Below W.heap.size W W1 := by rw [hW1]; exact below_alloc (Below.refl _ _) _
  have hyb : W1.heap[W.heap.size]? = some (one1 (.func (.yield l) #[] #[]) 78) := by rw [hW1]; exact heap_alloc_new W _
  have k0 := blk_cell hnbW 0
  have k1 := blk_cell hnbW 1
  have k2 := blk_cell hnbW 2
  have k3 := blk_cell hnbW 3
  simp at k0 k1 k2 k3
  have hlt := blk_lt hnbW
  have hu := Try.underlying25
  obtain ⟨W2, hW2⟩ : ∃ W2, W2 = W1.alloc (boxN T.k T.w T.wd T.A T.kids.length T.c) := ⟨_, rfl⟩
  have hb2 : Below W1.heap.size W1 W2 := by rw [hW2]; exact below_alloc (Below.refl _ _) _
  have hnb2 : W2.heap[W1.heap.size]? = some (boxN T.k T.w T.wd T.A T.kids.length T.c) := by rw [hW2]; exact heap_alloc_new W1 _
  have hbW2 := below_step hb1 hb2
  have hs1 : W1.heap.size = W.heap.size + 1 := by rw [hW1]; simp
  have hs2 : W2.heap.size = W.heap.size + 2 := by rw [hW2, World.size_alloc, hs1]
  refine callsIn_of_wp_marks Try.func41 rfl trivial ?_ rfl
  simp only [Try.ntmps41, List.size_toArray, List.length_cons, List.length_nil, Nat.reduceAdd, Nat.reduceSub, Array.replicate_succ, Array.replicate_zero, List.push_toArray, List.append_toArray, List.nil_append, List.cons_append]
  gi_wp2
  refine ⟨trivial, fun h => (by cases h), ?_⟩
  rw [← hW1]
  refine (walkF_in _ _ _ _ _ _ _ _).mono ?_
  rintro e w' ⟨rfl, rfl⟩
  rw [← hW2]
  have HYB := Aside0.mk (blk_below hyb hb2)
  have HJ0 := Aside0.mk (abides_below hJ [] W W2 h0 hbW2)
  have HL2 := Aside0.mk (hlowW.trans (hbW2.mono (by omega)))
  have HNB := Aside0.mk hnb2
  have HBW2 := Aside0.mk hbW2
  have h0' := h0
  have HY := Aside0.mk hY
  have HS1 := Aside0.mk hs1
  have HS2 := Aside0.mk hs2
  have HBW := Aside0.mk hBW
  clear k0 k1 k2 k3 hnb2 hyb hY h0 hW1 hW2 hs1 hs2 hBW
  gi_wp2
  refine rangeF (w := W2) (gf := 51) (lb := #[.pointer (some ⟨W1.heap.size, 0, none⟩)]) rfl (enters_of Try.func51 (by kernel_rfl) rfl)
    (walk_stops W0 n0 W2.heap.size hn0 (by have := HS2.out; have := HBW.out; omega) bx (fun b hb => by have := hbx b hb; have := HS2.out; have := HBW.out; omega) W1.heap.size T W2 hT HL2.out HNB.out)
    (fun h k => Kp.trans h k) (fun W o o' h hc => Kp.record (fun b hb => by have := hbx b hb; have := HS2.out; have := HBW.out; omega) (by have := HS2.out; have := HBW.out; omega) W o o' h hc) (Below.refl _ _) (fun _ => rfl)
    (fun pre X => J (pre.filter fun x => faultB x.1.1.k) X ∧ (X.heap[W.heap.size]? = some (one1 (.func (.yield l) #[] #[]) 78) ∧ ¬ fr bx X W.heap.size) ∧ W2.heap.size + 2 ≤ X.heap.size)
    (fun c pre X => c = .ret ∧ Jx (pre.filter fun x => faultB x.1.1.k) X)
    (fun s A B row hs hg hr => ⟨(OwnFrom.le hJ (by have := HS2.out; omega)) _ A B row hs.1 hg hr, ⟨own_cells s A B row hs.2.1.1 hg hr, fun hf => hs.2.1.2 (by
      obtain ⟨b, hb, v, hv, ho⟩ := hf
      refine ⟨b, hb, v, ?_, ho⟩
      have hlt := hbx b hb
      have h2 : B.heap[b]? = A.heap[b]? := hg.block b (by have := HS2.out; have := HBW.out; have := hs.2.2; omega) (fun e => by have := (hr b e.symm).1; have := HS2.out; have := HBW.out; omega)
      rw [← cell_eq h2]
      exact hv)⟩, Nat.le_trans hs.2.2 hg.size⟩)
    (fun c s A B row hs hg hr => ⟨hs.1, (OwnFrom.le hJx (by have := HS2.out; omega)) _ A B row hs.2 hg hr⟩)
    (fun pre X h => ⟨hJV _ X h.1, h.2.2⟩)
    (fun Wq hbq hsq => ⟨abides_below hJ [] W2 Wq HJ0.out hbq, ⟨blk_below HYB.out hbq, fun hf => by have := hJV _ _ h0' _ (fr.below hbx (by have := HBW.out; omega) HBW2.out (fr.below hbx (by have := HS2.out; have := HBW.out; omega) hbq hf)); omega⟩, hsq⟩)
    ?round ?done ?stop
  case round =>
    rintro l' pre ⟨⟨⟨nk, nw, nwd, nA, nc, nkids⟩, f, d⟩, hTn⟩ X C hX ⟨hj, ⟨hyX, hnX⟩, hszX⟩ hp hC
    obtain ⟨xx, hxx⟩ : ∃ xx : Told W0, xx = ⟨(AT.node nk nw nwd nA nc nkids, f, d), hTn⟩ := ⟨_, rfl⟩
    have HXX := Aside0.mk (show xx.1 = (AT.node nk nw nwd nA nc nkids, f, d) by rw [hxx])
    have HC := Aside0.mk hC
    have HP := Aside0.mk hp
    rw [← hxx] at HC HP
    obtain ⟨X2, hX2⟩ : ∃ X2, X2 = (X.alloc (.cells #[.int .i64 f, .int .i64 (wrap64 (f + nwd))] 42)).alloc (boxN nk nw nwd nA nkids.length nc) := ⟨_, rfl⟩
    have hbx2 : Below X.heap.size X X2 := by rw [hX2]; exact Below.alloc (below_alloc (Below.refl _ _) _) (by simp) _
    have h15 : X2.heap[X.heap.size + 1]? = some (boxN nk nw nwd nA nkids.length nc) := by
      rw [hX2]
      have := heap_alloc_new (X.alloc (.cells #[.int .i64 f, .int .i64 (wrap64 (f + nwd))] 42)) (boxN nk nw nwd nA nkids.length nc)
      simpa using this
    have h14 : X2.heap[X.heap.size]? = some (.cells #[.int .i64 f, .int .i64 (wrap64 (f + nwd))] 42 (0, 0)) := by
      rw [hX2, Below.heap_alloc _ _ _ (by simp)]
      exact heap_alloc_new X _
    have HBX := Aside0.mk hbx2
    have H14 := Aside0.mk h14
    have H15 := Aside0.mk h15
    have HX2 := Aside0.mk hX2
    have HI := Aside0.mk (And.intro hj (And.intro (And.intro hyX hnX) hszX))
    have hus := Try.underlying42
    have huf := Try.underlying44
    clear hC hp hxx hbx2 h14 h15 hX2 hj hyX hnX
    simp only [spanV, AT.val, AT.k, AT.w, AT.wd, AT.A, AT.c, AT.kids]
    gi_wp2
    rw [← HX2.out]
    have hBX2 : B + 2 ≤ W2.heap.size := by have := HS2.out; have := HBW.out; omega
    refine HC.out _ _ ⟨HBX.out.size, fun q o _ ho _ => (HBX.out.block q (Array.getElem?_eq_some_iff.1 ho).1).trans ho⟩ (Kp.of_below (fun b hb => by have := hbx b hb; omega) (by omega) (by omega) HBX.out) ⟨abides_below hJ _ X _ HI.out.1 HBX.out, ⟨blk_below HI.out.2.1.1 HBX.out, fun hf => HI.out.2.1.2 (fr.below hbx (by omega) HBX.out hf)⟩, Nat.le_trans HI.out.2.2 HBX.out.size⟩ (fun Wb hKb hIb hcells hszb => ?_)
    obtain ⟨hjb, ⟨hyb, hnb'⟩, hsb⟩ := hIb
    have hw14 := hcells _ _ _ _ H14.out
    have hw15 := hcells _ _ _ _ H15.out
    have m2 := blk_cell hw14 0
    have m3 := blk_cell hw14 1
    have m4 := blk_cell hw15 0
    have m5 := blk_cell hw15 1
    have m6 := blk_cell hw15 2
    have m7 := blk_cell hw15 3
    have my := blk_cell hyb 0
    have my2 := blk_lt hyb
    have mb := blk_lt hw14
    have mb2 := blk_lt hw15
    simp at m2 m3 m4 m5 m6 m7 my
    have HKB := Aside0.mk hKb
    have HJB := Aside0.mk hjb
    have HYBb := Aside0.mk hyb
    have HNBb := Aside0.mk hnb'
    have HSB := Aside0.mk hsb
    clear hKb hjb hyb hnb' hcells hw14 hw15 hszb hsb hszX
    have hfil : (pre ++ [xx]).filter (fun x => faultB x.1.1.k) = pre.filter (fun x => faultB x.1.1.k) ++ (if faultB nk = true then [xx] else []) := by
      rw [List.filter_append]
      congr 1
      simp only [List.filter_cons, List.filter_nil, HXX.out, AT.k]
    have HFIL := Aside0.mk hfil
    clear hfil
    have hnl : n0 ≤ Wb.heap.size := by omega
    by_cases e50 : nk = 50
    · have d50 : (nk == 50) = true := beq_iff_eq.mpr e50
      have E50 := Aside0.mk e50
      clear e50
      obtain ⟨Wf, hWf⟩ : ∃ Wf, Wf = Wb.alloc (.cells #[.int .i64 f, .int .i64 (wrap64 (f + nwd)), .int .u8 nk, .int .u8 nw] 44) := ⟨_, rfl⟩
      have hbf : Below Wb.heap.size Wb Wf := by rw [hWf]; exact below_alloc (Below.refl _ _) _
      have HBF := Aside0.mk hbf
      have HF2 := Aside0.mk (show (pre ++ [xx]).filter (fun x => faultB x.1.1.k) = pre.filter (fun x => faultB x.1.1.k) ++ [xx] by rw [HFIL.out, if_pos (by unfold faultB; rw [d50]; rfl)])
      obtain ⟨fn, tmps, assign, body, hyr, hR⟩ := HY.out (n - 1) (pre.filter fun x => faultB x.1.1.k) xx Wf (abides_below hJ _ Wb Wf HJB.out hbf) (by
        have h1 := List.IsPrefix.filter (fun x : AT × Int × Int => faultB x.1.k) HP.out
        rw [List.filter_map] at h1
        rw [← HF2.out]
        exact h1)
      rw [hWf] at hyr
      simp only [faultV, HXX.out, AT.k, AT.w, AT.wd, wantOf, if_pos E50.out] at hyr
      have HR := Aside0.mk hR
      have HWF := Aside0.mk hWf
      clear hR hWf hbf
      gi_wp2
      refine ⟨fun h => (by cases h), ?_⟩
      rw [← HWF.out]
      refine (show RoundIn (Fence.wide.inRound l') (n - 1) _ _ _ _ _ _ _ _ from HR.out).mono ?_
      clear m2 m3 m4 m5 m6 m7 my hyr
      have hsB := HSB.out
      have hBWo := HBW.out
      have hkf : Kp n0 B bx Wb Wf := Kp.of_below hbx (by omega) (by omega) HBF.out
      have hn1 : ¬ fr bx Wf W.heap.size := hkf.notfr (blk_lt HYBb.out) HNBb.out
      rintro e X' (⟨rfl, hj', hk'⟩ | ⟨rfl, hx', hk'⟩)
      · have HJ' := Aside0.mk hj'
        have HK' := Aside0.mk hk'
        clear hj' hk'
        gi_wp2
        exact ⟨(hkf.trans HK'.out).keeps hBX2, HKB.out.trans ((hkf.trans HK'.out).le (by omega)), by rw [HF2.out]; exact HJ'.out, ⟨HK'.out.high _ _ _ _ (by omega) hn1 (blk_below HYBb.out HBF.out), HK'.out.notfr (blk_lt (blk_below HYBb.out HBF.out)) hn1⟩, by have := HBF.out.size; have := HK'.out.low.size; omega⟩
      · have HJ' := Aside0.mk hx'
        have HK' := Aside0.mk hk'
        clear hx' hk'
        gi_wp2
        exact ⟨(hkf.trans HK'.out).keeps hBX2, HKB.out.trans ((hkf.trans HK'.out).le (by omega)), by trivial, by rw [HF2.out]; exact HJ'.out⟩
    have d50 : (nk == 50) = false := beq_eq_false_iff_ne.mpr e50
    by_cases ef : faultB nk = true
    case neg =>
      have ef2 : faultB nk = false := by simpa using ef
      have hd : (nk == 68) = false ∧ (nk == 5) = false ∧ (nk == 9) = false ∧ (nk == 4) = false := by
        unfold faultB at ef2
        simp only [Bool.or_eq_false_iff] at ef2
        exact ⟨ef2.1.1.1.2, ef2.1.1.2, ef2.1.2, ef2.2⟩
      obtain ⟨d68, d5, d9, d4⟩ := hd
      obtain ⟨Wf, hWf⟩ : ∃ Wf, Wf = Wb.alloc (.cells #[.int .i64 f, .int .i64 (wrap64 (f + nwd)), .int .u8 nk, .int .u8 0] 44) := ⟨_, rfl⟩
      have hbf : Below Wb.heap.size Wb Wf := by rw [hWf]; exact below_alloc (Below.refl _ _) _
      have HF2 := Aside0.mk (show (pre ++ [xx]).filter (fun x => faultB x.1.1.k) = pre.filter (fun x => faultB x.1.1.k) by rw [HFIL.out, if_neg ef, List.append_nil])
      have HBF := Aside0.mk hbf
      have HWF := Aside0.mk hWf
      clear ef ef2 e50 hbf hWf
      gi_wp2
      rw [← HWF.out]
      have hkf : Kp n0 W2.heap.size bx Wb Wf := Kp.of_below (fun b hb => by have := hbx b hb; omega) (by omega) (by have := HSB.out; omega) HBF.out
      exact ⟨⟨HBF.out.size, fun q o _ ho _ => (HBF.out.block q (Array.getElem?_eq_some_iff.1 ho).1).trans ho⟩, HKB.out.trans hkf, by rw [HF2.out]; exact abides_below hJ _ Wb Wf HJB.out HBF.out, ⟨blk_below HYBb.out HBF.out, hkf.notfr (blk_lt HYBb.out) HNBb.out⟩, Nat.le_trans HSB.out HBF.out.size⟩
    have hd : (nk == 68) = true ∨ ((nk == 68) = false ∧ (nk == 5) = true) ∨ ((nk == 68) = false ∧ (nk == 5) = false ∧ (nk == 9) = true) ∨ ((nk == 68) = false ∧ (nk == 5) = false ∧ (nk == 9) = false ∧ (nk == 4) = true) := by
      unfold faultB at ef
      rw [d50] at ef
      cases h68 : (nk == 68) <;> cases h5 : (nk == 5) <;> cases h9 : (nk == 9) <;> cases h4 : (nk == 4) <;> simp_all
    have EF := Aside0.mk ef.symm
    have E50 := Aside0.mk e50
    clear ef e50
    rcases hd with d68 | ⟨d68, d5⟩ | ⟨d68, d5, d9⟩ | ⟨d68, d5, d9, d4⟩
    all_goals
      obtain ⟨Wf, hWf⟩ : ∃ Wf, Wf = Wb.alloc (.cells #[.int .i64 f, .int .i64 (wrap64 (f + nwd)), .int .u8 nk, .int .u8 0] 44) := ⟨_, rfl⟩
      have hbf : Below Wb.heap.size Wb Wf := by rw [hWf]; exact below_alloc (Below.refl _ _) _
      have HBF := Aside0.mk hbf
      have HF2 := Aside0.mk (show (pre ++ [xx]).filter (fun x => faultB x.1.1.k) = pre.filter (fun x => faultB x.1.1.k) ++ [xx] by rw [HFIL.out, if_pos EF.out.symm])
      obtain ⟨fn, tmps, assign, body, hyr, hR⟩ := HY.out (n - 1) (pre.filter fun x => faultB x.1.1.k) xx Wf (abides_below hJ _ Wb Wf HJB.out hbf) (by
        have h1 := List.IsPrefix.filter (fun x : AT × Int × Int => faultB x.1.k) HP.out
        rw [List.filter_map] at h1
        rw [← HF2.out]
        exact h1)
      rw [hWf] at hyr
      simp only [faultV, HXX.out, AT.k, AT.w, AT.wd, wantOf, if_neg E50.out] at hyr
      have HR := Aside0.mk hR
      have HWF := Aside0.mk hWf
      clear hR hWf hbf
      gi_wp2
      refine ⟨fun h => (by cases h), ?_⟩
      rw [← HWF.out]
      refine (show RoundIn (Fence.wide.inRound l') (n - 1) _ _ _ _ _ _ _ _ from HR.out).mono ?_
      clear m2 m3 m4 m5 m6 m7 my hyr
      have hsB := HSB.out
      have hBWo := HBW.out
      have hkf : Kp n0 B bx Wb Wf := Kp.of_below hbx (by omega) (by omega) HBF.out
      have hn1 : ¬ fr bx Wf W.heap.size := hkf.notfr (blk_lt HYBb.out) HNBb.out
      rintro e X' (⟨rfl, hj', hk'⟩ | ⟨rfl, hx', hk'⟩)
      · have HJ' := Aside0.mk hj'
        have HK' := Aside0.mk hk'
        clear hj' hk'
        gi_wp2
        exact ⟨(hkf.trans HK'.out).keeps hBX2, HKB.out.trans ((hkf.trans HK'.out).le (by omega)), by rw [HF2.out]; exact HJ'.out, ⟨HK'.out.high _ _ _ _ (by omega) hn1 (blk_below HYBb.out HBF.out), HK'.out.notfr (blk_lt (blk_below HYBb.out HBF.out)) hn1⟩, by have := HBF.out.size; have := HK'.out.low.size; omega⟩
      · have HJ' := Aside0.mk hx'
        have HK' := Aside0.mk hk'
        clear hx' hk'
        gi_wp2
        exact ⟨(hkf.trans HK'.out).keeps hBX2, HKB.out.trans ((hkf.trans HK'.out).le (by omega)), by trivial, by rw [HF2.out]; exact HJ'.out⟩
  case done =>
    rintro xs X hS ⟨hj, _, _⟩ hD
    have HD := Aside0.mk hD
    clear hD
    gi_wp2
    refine ⟨by simp, .inl ⟨_, _, rfl, run_takeDeferred HD.out, ?_⟩⟩
    exact ⟨_, results_none rfl _ _ _, ⟨_, rfl⟩, .inl ⟨xs.filter fun x => faultB x.1.1.k, by rw [← hS, List.filter_map]; rfl, (OwnFrom.le hJ (by have := HS2.out; omega)).putObj (B := W2.heap.size) _ hj (Nat.le_refl _) HD.out rfl⟩⟩
  case stop =>
    rintro c pre X hS ⟨rfl, hj⟩ hD
    have HD := Aside0.mk hD
    clear hD
    gi_wp2
    refine ⟨by simp, .inl ⟨_, _, rfl, run_takeDeferred HD.out, ?_⟩⟩
    exact ⟨_, results_none rfl _ _ _, ⟨_, rfl⟩, .inr ⟨pre.filter fun x => faultB x.1.1.k, by have := List.IsPrefix.filter (fun x : AT × Int × Int => faultB x.1.k) hS; rwa [List.filter_map] at this, (OwnFrom.le hJx (by have := HS2.out; omega)).putObj (B := W2.heap.size) _ hj (Nat.le_refl _) HD.out rfl⟩⟩
end Go.Proofs.Ytceddikbmbadlaa.H
