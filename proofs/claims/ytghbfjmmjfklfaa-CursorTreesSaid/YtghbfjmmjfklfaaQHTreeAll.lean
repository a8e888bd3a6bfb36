/- The contract of the document's All: all nodes of a tree that may be, in order, behind one another (add hands its row back grown). -/
import Derived.Test.YtghbfjmmjfklfaaQHTreeGrow
import Derived.Test.YtghbfjmmjfklfaaQHxglossatorref15Right
set_option linter.unusedVariables false
set_option linter.unusedSimpArgs false
namespace Go.Proofs.Ytghbfjmmjfklfaa.H
open Go.RowKit Go.Proofs.YtghbfjmmjfklfaaW.PrintWords Go.Proofs.YtghbfjmmjfklfaaW.PrintLast Go.Proofs.YtghbfjmmjfklfaaW.PrintMore
mutual
/-- Nodes in order: where each begins, how many are above it. -/
def preT : S27 → Int → Int → List (S27 × Int × Int)
  | ⟨k, w, wd, l⟩, f, d => (⟨k, w, wd, l⟩, f, d) :: preTL l f d
def preTL : List S27 → Int → Int → List (S27 × Int × Int)
  | [], _, _ => []
  | t :: r, f, d => preT t f (wrap64 (d + 1)) ++ preTL r (wrap64 (f + t.f2)) d
end
mutual
theorem preT_length : ∀ (t : S27) (f d : Int), (preT t f d).length = tsize t
  | ⟨k, w, wd, l⟩, f, d => by simp only [preT, tsize, List.length_cons, preTL_length l f d]; omega
theorem preTL_length : ∀ (l : List S27) (f d : Int), (preTL l f d).length = lsize l
  | [], f, d => by simp [preTL, lsize]
  | t :: r, f, d => by simp only [preTL, lsize, List.length_append, preT_length t, preTL_length r]
end
def seenS (x : S27 × Int × Int) : S125 := ⟨x.1, ⟨x.2.1, wrap64 (x.2.1 + x.1.f2)⟩, x.2.2⟩
theorem cell_of_heap {W W' : World} {b o : Nat} (h : W'.heap[b]? = W.heap[b]?) : W'.cell? ⟨b, o, none⟩ = W.cell? ⟨b, o, none⟩ := by
  unfold World.cell?
  simp only [h]
theorem below_of_grownX {w w1 : World} (hg : w.grownBy w1 (Value.slice none 0 0).ownBlock) : Below w.heap.size w w1 := ⟨hg.os, hg.tape, hg.output, hg.size, fun k hk => hg.block k hk (by simp [Value.ownBlock])⟩
theorem infoSeen : (Try.prog.info? 125).map (fun i => (i.zero, i.size, i.bytes)) = some (some (.agg #[.int .u8 0, .int .u8 0, .int .i64 0, .slice none 0 0, .int .i64 0, .int .i64 0, .int .i64 0]), 7, 64) := by kernel_rfl
set_option maxHeartbeats 4000000 in
set_option maxRecDepth 100000 in
theorem add_calls (B0 : Nat) (okt : Nat → Prop) (hokt : ∀ k, okt k → k < B0) (z : Nat) : ∀ (t : S27), SizeOf.sizeOf t < z → ∀ (A : Option Addr) (c : Nat) (f d : Int) (v : Value) (L : List S125) (W : World), t.f3.length ≤ c → Kd.F k27 W okt A t.f3.length t.f3 → B0 ≤ W.heap.size →
    Kd.N k125 125 W B0 (fun k => okt k ∨ B0 ≤ k) v L → L.length + tsize t ≤ 2000000 →
    Calls Try.prog 77 #[v, .agg #[.int .u8 t.f0, .int .u8 t.f1, .int .i64 t.f2, .slice A t.f3.length c], .int .i64 f, .int .i64 d] W fun e W' => ∃ v', e = .returned v' ∧ Kd.N k125 125 W' B0 (fun k => okt k ∨ B0 ≤ k) v' (L ++ (preT t f d).map seenS) ∧ W.grownBy W' v.ownBlock ∧ (v'.ownBlock = v.ownBlock ∨ ∃ b, v'.ownBlock = some b ∧ W.heap.size ≤ b) := by
  induction z with
  | zero => intro t h; exact absurd h (Nat.not_lt_zero _)
  | succ z ih =>
  rintro ⟨k, w, wd, kids⟩ hz A c f d v L W hc hF hB hN hlen
  simp only at hc hF ⊢
  have IH := Aside0.mk ih
  have HZ := Aside0.mk hz
  have HF := Aside0.mk hF
  have HC := Aside0.mk hc
  have HN := Aside0.mk hN
  have HLEN := Aside0.mk hlen
  have HB := Aside0.mk hB
  have hvl := Kd.N_lt hN
  clear ih hz hF hc hN hlen hB
  obtain ⟨W1, hW1⟩ : ∃ W1, W1 = W.alloc (.cells #[.int .u8 k, .int .u8 w, .int .i64 wd, .slice A kids.length c] 27) := ⟨_, rfl⟩
  have hb1 : Below W.heap.size W W1 := by rw [hW1]; exact below_alloc (Below.refl _ _) _
  have hX : W1.heap[W.heap.size]? = some (.cells #[.int .u8 k, .int .u8 w, .int .i64 wd, .slice A kids.length c] 27 (0, 0)) := by rw [hW1]; exact heap_alloc_new _ _
  have hs1 : W1.heap.size = W.heap.size + 1 := by rw [hW1]; simp
  have HX := Aside0.mk hX
  have HB1 := Aside0.mk hb1
  have HS1 := Aside0.mk hs1
  have HVL := Aside0.mk hvl
  have hkb0 := blk_cell hX 0
  have hkb1 := blk_cell hX 1
  have hkb2 := blk_cell hX 2
  have hkb3 := blk_cell hX 3
  have hlt := blk_lt hX
  simp at hkb0 hkb1 hkb2 hkb3
  have hu := Try.underlying27
  have hus := Try.underlying117
  have hue := Try.underlying125
  have hm : kids.length ≤ 9223372036854775807 := Kd.F_max HF.out
  clear hb1 hX hs1 hvl
  go_enter Try.func77, Try.ntmps77
  go_upto_region 1 with (fail)
  rw [← hW1]
  clear hW1
  have HP := Aside0.mk (k125_mkF W1 okt (seenS (⟨k, w, wd, kids⟩, f, d)) (A3 := A) (c3 := c) HC.out (Kd.F_below HF.out HB1.out))
  have HN1 := Aside0.mk (Kd.N_below HN.out HB1.out)
  go_wp2_with (at_builtin; refine Kd.N_append k125 (w0 := W) B0 rfl (.tmp 10) (.tmp 20) 122 125 _ 64 rfl Try.underlying122 infoSeen rfl (by decide) (by decide) v L (seenS (⟨k, w, wd, kids⟩, f, d)) [.int .u8 k, .int .u8 w, .int .i64 wd, .slice A kids.length c, .int .i64 f, .int .i64 (wrap64 (f + wd)), .int .i64 d] (fun k => okt k ∨ B0 ≤ k) okt rfl rfl HP.out (fun q hq => ⟨.inl hq, fun e => by have h1 := Kd.N_base HN1.out q e.symm; have h2 := hokt q hq; omega⟩) (fun q hq => .inr (by have := HB.out; have := HS1.out; omega)) HN1.out (HB1.out.mono HB.out) (by have := HB.out; have := HS1.out; omega) (by have := HLEN.out; simp only [tsize] at this; omega) ?_; intro v1 w1 hn1 _ hg1 hat1)
  have HN1' := Aside0.mk hn1
  have HG1 := Aside0.mk hg1
  have HAT1 := Aside0.mk hat1
  have HNE := Aside0.mk (show (some W.heap.size : Option Nat) ≠ v.ownBlock from fun e => by have := HVL.out _ e.symm; omega)
  clear hn1 hg1 hat1 hkb0 hkb1 hkb2 hkb3 HP HN1 hlt
  go_loopg [0, 2, 9] kids.length (fun kq v0 v2 v9 w' => ∃ (i : Nat) (f' : Int) (D : List S125) (vv : Value), vv = v0 ∧ v9 = .int .i64 i ∧ v2 = .int .i64 f' ∧ i ≤ kids.length ∧ Aside0 (kq = kids.length - i) ∧ Aside0 (Kd.N k125 125 w' B0 (fun k => okt k ∨ B0 ≤ k) v0 (L ++ D)) ∧ Aside0 (W1.grownBy w' v.ownBlock) ∧ Aside0 (v0.ownBlock = v.ownBlock ∨ ∃ b, v0.ownBlock = some b ∧ W1.heap.size ≤ b) ∧ Aside0 ((preT ⟨k, w, wd, kids⟩ f d).map seenS = D ++ (preTL (kids.drop i) f' d).map seenS))
  case atStart => exact ⟨0, f, [seenS (⟨k, w, wd, kids⟩, f, d)], _, rfl, rfl, rfl, Nat.zero_le _, ⟨rfl⟩, HN1', HG1, HAT1, ⟨by simp only [preT, List.map_cons, List.drop_zero, List.singleton_append]⟩⟩
  case round =>
    obtain ⟨i, f', D, vv, rfl, rfl, rfl, hi, HK, HNr, HGr, HAr, HPr⟩ := hrel
    have hX' := (HGr.out.block _ (blk_lt HX.out) HNE.out).trans HX.out
    have hkb3 := blk_cell hX' 3
    simp at hkb3
    have HX' := Aside0.mk hX'
    have HFr := Aside0.mk (Kd.F_grown (Kd.F_below HF.out HB1.out) HGr.out (fun q hq e => by have h1 := Kd.N_base HN.out q e.symm; have h2 := hokt q hq; omega))
    clear hX'
    by_cases hlt : i < kids.length
    · obtain ⟨ad, A3, c3, e, g0, g1, g2, gg3, gl, gF⟩ := at_T27F HFr.out i hlt
      subst e
      obtain ⟨t, hts⟩ : ∃ t, t = rd_T27 kids i := ⟨_, rfl⟩
      rw [← hts] at g0 g1 g2 gg3 gl gF
      have HMEM := Aside0.mk (show t ∈ kids by rw [hts, rd_at27 kids i hlt]; exact List.getElem_mem hlt)
      have HP2 := Aside0.mk (show (preT ⟨k, w, wd, kids⟩ f d).map seenS = (D ++ (preT t f' (wrap64 (d + 1))).map seenS) ++ (preTL (kids.drop (i + 1)) (wrap64 (f' + t.f2)) d).map seenS by
        rw [HPr.out, List.drop_eq_getElem_cons hlt, preTL, hts, rd_at27 kids i hlt, List.map_append, List.append_assoc])
      have HSZ := Aside0.mk (show L.length + D.length + tsize t ≤ 2000000 by
        have h1 := congrArg List.length HP2.out
        have h2 := HLEN.out
        simp only [List.length_map, List.length_append, preT_length, preTL_length] at h1
        omega)
      have HAD := Aside0.mk (show (ad.add (i * 4)).block < B0 by
        obtain ⟨ad', cs, e', _, _, _, hok⟩ := Kd.F_get HFr.out z27 (i : Int) (by omega) (by omega)
        injection e' with e'
        subst e'
        rw [add_block]
        exact hokt _ (hok (by decide)))
      have GF := Aside0.mk gF
      have GL := Aside0.mk gl
      clear HPr hts gF gl
      obtain ⟨tk, tw, twd, tks⟩ := t
      simp only at g0 g1 g2 gg3
      have HCALL := Aside0.mk (IH.out ⟨tk, tw, twd, tks⟩ (by have h1 := List.sizeOf_lt_of_mem HMEM.out; have h2 := HZ.out; simp only [S27.mk.sizeOf_spec] at h2 h1 ⊢; omega) A3 c3 f' (wrap64 (d + 1)) vv (L ++ D) wr GL.out GF.out (by have := HGr.out.size; have := HB.out; have := HS1.out; omega) HNr.out (by rw [List.length_append]; exact HSZ.out))
      have HK2 := Aside0.mk (show ∀ w2 : World, wr.grownBy w2 vv.ownBlock → w2.cell? ⟨(ad.add (i * 4)).block, (ad.add (i * 4)).off + 2, none⟩ = some (.int .i64 twd) ∧ w2.cell? ⟨W.heap.size, 3, none⟩ = some (.slice (some ad) kids.length c) from fun w2 hg => by
        refine ⟨?_, ?_⟩
        · rw [cell_of_heap (hg.block _ (World.block_lt_of_cell? wr _ g2) (fun e => ?_)), g2]
          have h1 : B0 ≤ (ad.add (i * 4)).block := Kd.N_base HNr.out _ e.symm
          have h2 := HAD.out
          omega
        · rw [cell_of_heap (hg.block _ (blk_lt HX'.out) (fun e => ?_)), hkb3]
          rcases HAr.out with h | ⟨b, h, hb⟩
          · exact HNE.out (by rw [← h]; exact e)
          · rw [h] at e
            injection e with e
            have := HS1.out
            omega)
      go_wp2_with (go_at_call 77; refine HCALL.out.mono ?_; rintro e w2 ⟨v2, rfl, hn2, hg2, hat2⟩; obtain ⟨q2, q3⟩ := HK2.out w2 hg2; have HN2 := Aside0.mk hn2; have HG2 := Aside0.mk hg2; have HAT2 := Aside0.mk hat2; clear hn2 hg2 hat2)
      go_roundg (kids.length - (i + 1))
      case measure => have := HK.out; omega
      case rel => exact ⟨i + 1, wrap64 (f' + twd), D ++ (preT ⟨tk, tw, twd, tks⟩ f' (wrap64 (d + 1))).map seenS, v2, rfl, by go_num, rfl, by omega, ⟨rfl⟩, ⟨by rw [← List.append_assoc]; exact HN2.out⟩, ⟨by
          rcases HAr.out with h | ⟨b, h, hb⟩
          · exact World.grownBy.trans HGr.out (by rw [← h]; exact HG2.out)
          · have k := HG2.out
            have h1 := HGr.out
            exact ⟨k.os.trans h1.os, k.tape.trans h1.tape, k.output.trans h1.output, Nat.le_trans h1.size k.size, fun q hq hr => (k.block q (Nat.lt_of_lt_of_le hq h1.size) (fun e => by rw [h] at e; injection e with e; omega)).trans (h1.block q hq hr)⟩⟩, ⟨by
          rcases HAT2.out with h | ⟨b, h, hb⟩
          · rw [h]; exact HAr.out
          · exact .inr ⟨b, h, Nat.le_trans HGr.out.size hb⟩⟩, HP2⟩
    · have hi2 : kids.length ≤ i := Nat.not_lt.1 hlt
      have HP3 := Aside0.mk (show (preT ⟨k, w, wd, kids⟩ f d).map seenS = D by rw [HPr.out, List.drop_eq_nil_of_le hi2, preTL, List.map_nil, List.append_nil])
      clear HPr
      go_wp2
      go_ret
      exact ⟨vv, rfl, by rw [HP3.out]; exact HNr.out, World.grownBy.trans (grown_of_below HB1.out _) HGr.out, by
        rcases HAr.out with h | ⟨b, h, hb⟩
        · exact .inl h
        · exact .inr ⟨b, h, by have := HS1.out; omega⟩⟩
def glossatorref15_All.f (k : Nat) (a0_0 : Int) (a0_1 : Int) (a0_2 : Int) (l0_3 : List (S27)) : Option (List (S125)) :=
  (glossatorref15_Right.f k a0_0 a0_1 a0_2 l0_3).bind fun r => if r = true then (if tsize ⟨a0_0, a0_1, a0_2, l0_3⟩ ≤ 2000000 then some ((preT ⟨a0_0, a0_1, a0_2, l0_3⟩ 0 0).map seenS) else none) else some []
theorem glossatorref15_All.mono : ∀ a0_0 a0_1 a0_2 l0_3 k, LeO (glossatorref15_All.f k a0_0 a0_1 a0_2 l0_3) (glossatorref15_All.f (k + 1) a0_0 a0_1 a0_2 l0_3) := fun _ _ _ _ k => LeO.bind (glossatorref15_Right.mono _ _ _ _ k) (fun _ => LeO.refl _)
set_option maxHeartbeats 1000000 in
set_option maxRecDepth 100000 in
theorem glossatorref15_All.calls (k : Nat) (a0_0 : Int) (a0_1 : Int) (a0_2 : Int) (P0_3_ : Nat → Prop) (A0_3 : Option Addr) (c0_3 : Nat) (l0_3 : List (S27)) (r : List (S125)) (w : World) (hs0_3 : Kd.V k27 27 w w.heap.size (fun k_ => P0_3_ k_) (.slice A0_3 l0_3.length c0_3) l0_3) (h : glossatorref15_All.f k a0_0 a0_1 a0_2 l0_3 = some r) :
    Calls Try.prog 70 #[.agg #[.int .u8 a0_0, .int .u8 a0_1, .int .i64 a0_2, .slice A0_3 l0_3.length c0_3]] w fun e w' => ∃ v0_ : Value, e = .returned v0_ ∧ Kd.V k125 125 w' w.heap.size (fun k_ => (P0_3_ k_ ∨ w.heap.size ≤ k_)) v0_ r ∧ Below w.heap.size w w' := by
  obtain ⟨A', c', e0, hc0, hF0⟩ := hs0_3
  injection e0 with e1 _ e2
  subst e1 e2
  unfold glossatorref15_All.f at h
  obtain ⟨b, hb, h⟩ := Option.bind_eq_some_iff.1 h
  have HRR := Aside0.mk hb
  have HF := Aside0.mk (Kd.F_bound hF0)
  have HC := Aside0.mk hc0
  clear hb hF0 hc0
  obtain ⟨W1, hW1⟩ : ∃ W1, W1 = w.alloc (.cells #[.int .u8 a0_0, .int .u8 a0_1, .int .i64 a0_2, .slice A0_3 l0_3.length c0_3] 27) := ⟨_, rfl⟩
  have hb1 : Below w.heap.size w W1 := by rw [hW1]; exact below_alloc (Below.refl _ _) _
  have hX : W1.heap[w.heap.size]? = some (.cells #[.int .u8 a0_0, .int .u8 a0_1, .int .i64 a0_2, .slice A0_3 l0_3.length c0_3] 27 (0, 0)) := by rw [hW1]; exact heap_alloc_new _ _
  have HX := Aside0.mk hX
  have HB1 := Aside0.mk hb1
  have hkb0 := blk_cell hX 0
  have hkb1 := blk_cell hX 1
  have hkb2 := blk_cell hX 2
  have hkb3 := blk_cell hX 3
  have hlt := blk_lt hX
  simp at hkb0 hkb1 hkb2 hkb3
  have hu := Try.underlying27
  have H := Aside0.mk h
  clear hb1 hX h
  go_enter Try.func70, Try.ntmps70
  go_upto_region 1 with (fail)
  rw [← hW1]
  clear hW1
  cases b with
  | false =>
    have H2 := H.out
    rw [if_neg (by decide)] at H2
    cases H2
    clear H
    go_wp2_with (go_at_call 56; refine (glossatorref15_Right.calls k _ _ _ _ _ _ false _ (Kd.C_below (Kd.F_now HF.out) HB1.out) HC.out HRR.out).mono ?_; rintro e w2 ⟨rfl, hb2⟩; have HB2 := Aside0.mk (below_step HB1.out hb2); clear hb2)
    go_ret
    exact ⟨_, rfl, Kd.V_nil _ _ _ _ _, HB2.out⟩
  | true =>
    have H2 := H.out
    rw [if_pos rfl] at H2
    by_cases hsz : tsize ⟨a0_0, a0_1, a0_2, l0_3⟩ ≤ 2000000
    case neg => rw [if_neg hsz] at H2; cases H2
    rw [if_pos hsz] at H2
    clear H
    have HEQ := Aside0.mk (Option.some.inj H2)
    have HSZ := Aside0.mk hsz
    clear H2 hsz
    go_wp2_with (first
      | (go_at_call 56; refine (glossatorref15_Right.calls k _ _ _ _ _ _ true _ (Kd.C_below (Kd.F_now HF.out) HB1.out) HC.out HRR.out).mono ?_; rintro e w2 ⟨rfl, hb2⟩; have HB2 := Aside0.mk (below_step HB1.out hb2); have hX2 := blk_below HX.out hb2; have HX2 := Aside0.mk hX2; have hkc0 := blk_cell hX2 0; have hkc1 := blk_cell hX2 1; have hkc2 := blk_cell hX2 2; have hkc3 := blk_cell hX2 3; have hlt2 := blk_lt hX2; simp at hkc0 hkc1 hkc2 hkc3; clear hkb0 hkb1 hkb2 hkb3 hlt hX2 hb2)
      | (go_at_call 77; refine (add_calls w.heap.size (fun q => P0_3_ q ∧ q < w.heap.size) (fun q hq => hq.2) (SizeOf.sizeOf (⟨a0_0, a0_1, a0_2, l0_3⟩ : S27) + 1) ⟨a0_0, a0_1, a0_2, l0_3⟩ (Nat.lt_succ_self _) A0_3 c0_3 0 0 (.slice none 0 0) [] _ HC.out (Kd.F_below HF.out HB2.out) HB2.out.size (Kd.N_nil _ _ _ _ _) (by simpa using HSZ.out)).mono ?_; rintro e w3 ⟨v3, rfl, hn3, hg3, _⟩; have HN3 := Aside0.mk hn3; have HB3 := Aside0.mk (below_of_grownX hg3); clear hn3 hg3))
    go_ret
    have hN := HN3.out
    rw [List.nil_append, HEQ.out] at hN
    exact ⟨_, rfl, Kd.V_mono (Kd.N_V (base' := w.heap.size) hN) (fun q hq => Or.imp_left And.left hq), below_step HB2.out HB3.out⟩
end Go.Proofs.Ytghbfjmmjfklfaa.H
