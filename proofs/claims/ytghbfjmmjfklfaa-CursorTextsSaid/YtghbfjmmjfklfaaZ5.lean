/- Texts of this claim, merged. -/
import Derived.Test.YtghbfjmmjfklfaaZ4
import Derived.Laws.EntriesVeiled
import Derived.OpenShut
set_option linter.unusedVariables false
set_option linter.unusedSimpArgs false
namespace Go.Proofs.Ytghbfjmmjfklfaa.H
open Go.RowKit Go.Proofs.YtghbfjmmjfklfaaW.PrintWords Go.Proofs.YtghbfjmmjfklfaaW.PrintLast Go.Proofs.YtghbfjmmjfklfaaW.PrintMore
set_option maxHeartbeats 1000000 in
theorem tree_Right.calls (a0_0 : Int) (a0_1 : Int) (a0_2 : Int) (A0_3 : Option Addr) (c0_3 : Nat) (l0_3 : List S27) (r : Bool) (w : World) (hr0_3 : Kd.C k27 w A0_3 l0_3.length l0_3) (hc0_3 : l0_3.length ≤ c0_3) (h : tree_Right.f a0_0 a0_1 a0_2 l0_3 = some r) :
  Calls Try.prog 51 #[.agg #[.int .u8 a0_0, .int .u8 a0_1, .int .i64 a0_2, .slice A0_3 l0_3.length c0_3]] w fun e w' => e = .returned (.bool r) ∧ Below w.heap.size w w' := by
 have HR := zaa.mk (Option.some.inj h); clear h; have HF := zaa.mk (Kd.C_F heap27 hr0_3); have HC := zaa.mk hc0_3; clear hr0_3 hc0_3; have hu := Try.underlying27; go_enter Try.func51, Try.ntmps51
 go_wp2_with fail
 obtain ⟨W1, hW1⟩ : ∃ W1, W1 = ((w.alloc (.cells #[.int .u8 a0_0, .int .u8 a0_1, .int .i64 a0_2, .slice A0_3 l0_3.length c0_3] 27)).alloc (.cells #[.int .i64 0] 3)).alloc (.cells #[mayV (w.heap.size + 1) (w.heap.size + 1 + 1)] 112) := ⟨_, rfl⟩; have HB1 := zaa.mk (show Below w.heap.size w W1 by
  rw [hW1]; exact Below.alloc (Below.alloc (zad (Below.refl _ _) _) (by simp) _) (by simp; omega) _)
 have h3 : W1.heap[w.heap.size + 1]? = some (one1 (.int .i64 0) 3) := by
  rw [hW1, Below.heap_alloc _ _ _ (by simp)]
  have := heap_alloc_new (w.alloc (.cells #[.int .u8 a0_0, .int .u8 a0_1, .int .i64 a0_2, .slice A0_3 l0_3.length c0_3] 27)) (.cells #[.int .i64 0] 3)
  simpa using this
 have h4 : W1.heap[w.heap.size + 1 + 1]? = some (one1 (mayV (w.heap.size + 1) (w.heap.size + 1 + 1)) 112) := by
  rw [hW1]; have := heap_alloc_new ((w.alloc (.cells #[.int .u8 a0_0, .int .u8 a0_1, .int .i64 a0_2, .slice A0_3 l0_3.length c0_3] 27)).alloc (.cells #[.int .i64 0] 3)) (.cells #[mayV (w.heap.size + 1) (w.heap.size + 1 + 1)] 112)
  simpa using this
 have hF1 : Kd.F k27 W1 (fun k => k ≠ w.heap.size + 1) A0_3 l0_3.length l0_3 := Kd.F_mono (Kd.F_below HF.out HB1.out) (fun k hk => by omega)
 change Calls Try.prog 65 _ (((w.alloc (.cells #[.int .u8 a0_0, .int .u8 a0_1, .int .i64 a0_2, .slice A0_3 l0_3.length c0_3] 27)).alloc (.cells #[.int .i64 0] 3)).alloc (.cells #[mayV (w.heap.size + 1) (w.heap.size + 1 + 1)] 112)) _
 rw [← hW1]; clear hW1; refine (may_calls (SizeOf.sizeOf (⟨a0_0, a0_1, a0_2, l0_3⟩ : S27) + 1) ⟨a0_0, a0_1, a0_2, l0_3⟩ (Nat.lt_succ_self _) 1 0 A0_3 c0_3 W1 (w.heap.size + 1) (w.heap.size + 1 + 1) (by omega) h3 h4 hF1 HC.out).mono ?_
 rintro e W2 ⟨rfl, hg, _⟩
 rw [HR.out]; have HB2 := zaa.mk (HB1.out.grown hg HB1.out.size (fun k hk => by injection hk with hk; omega))
 clear h3 h4 hF1 hg; go_wp2
 go_ret
 exact ⟨rfl, HB2.out⟩
def okB (t : S27) : Bool := (mayN t 1 0).2
theorem right_prog (k w wd : Int) (kids : List S27) : tree_Right.f k w wd kids = some (okB ⟨k, w, wd, kids⟩) := rfl
theorem tsize_pos (t : S27) : 1 ≤ tsize t := by cases t; simp only [tsize]; omega
theorem right_ref (k w wd : Int) (kids : List S27) (hb : byteT ⟨k, w, wd, kids⟩) : Ev (fun n => za3.f n k w wd kids) (okB ⟨k, w, wd, kids⟩) := by
 obtain ⟨h1, h2⟩ := may_ref ⟨k, w, wd, kids⟩ 1 0 hb (by omega) (by omega) (by omega) (by omega)
 have hs := tsize_pos ⟨k, w, wd, kids⟩; refine Ev.congr (fun n => by unfold za3.f; rfl) (Ev.bind (f := fun _ t163 => some (decide (t163 > 0))) h1 (Ev.const ?_))
 unfold okB
 cases hm : (mayN ⟨k, w, wd, kids⟩ 1 0).2 with
 | false => simp
 | true =>
  have := (h2 hm).2; rw [if_pos rfl]
  congr 1
  rw [decide_eq_true_eq]; omega
def wsum : List S27 → Int
 | [] => 0
 | t :: r => t.f2 + wsum r
mutual
def goodT : S27 → Prop
 | ⟨k, w, wd, kids⟩ => (0 ≤ wd ∧ wd ≤ 1099511627776) ∧ (k ≤ 50 → kids = []) ∧ (50 < k → wsum kids = wd) ∧ k ≤ 68 ∧ goodL kids
def goodL : List S27 → Prop
 | [] => True
 | t :: r => goodT t ∧ goodL r
end
theorem goodT.w {t : S27} (h : goodT t) : 0 ≤ t.f2 ∧ t.f2 ≤ 1099511627776 := by
 cases t; simp only [goodT] at h; exact h.1
mutual
theorem may_good : ∀ (t : S27) (at_ c : Int), byteT t → 1 ≤ at_ → at_ ≤ 65537 → 0 ≤ c → c ≤ 1048576 → (mayN t at_ c).2 = true → goodT t
 | ⟨k, w, wd, kids⟩, at_, c, hb, ha, ha2, hc, hc2, h => by
  obtain ⟨⟨hk0, _⟩, ⟨hw0, _⟩, hkids⟩ := (by simpa only [byteT] using hb : (0 ≤ k ∧ k ≤ 255) ∧ (0 ≤ w ∧ w ≤ 255) ∧ byteL kids)
  have hcw : wrap64 (c + 1) = c + 1 := wrap_id (by omega) (by omega)
  simp only [mayN, hcw] at h; by_cases t1 : c + 1 > 1048576
  ·rw [if_pos t1] at h; cases h
  rw [if_neg t1] at h; by_cases t2 : at_ > 65536
  ·rw [if_pos t2] at h; cases h
  rw [if_neg t2] at h; by_cases t3 : k ≤ 50
  ·rw [if_pos t3] at h
   obtain ⟨rfl, h1, h2, _⟩ := leafB_facts h; simp only [goodT, goodL, and_true]; exact ⟨⟨h1, h2⟩, fun _ => trivial, fun h => by omega, by omega⟩
  rw [if_neg t3] at h; by_cases t4 : k > 68
  ·rw [if_pos t4] at h; cases h
  rw [if_neg t4] at h; by_cases t5 : w = 0
  case neg => rw [if_pos (show w ≠ 0 from t5)] at h; cases h
  rw [if_neg (show ¬ (w ≠ 0) from fun h => h t5)] at h
  by_cases t6 : k = 51 ∧ at_ > 1
  ·rw [if_pos t6] at h; cases h
  rw [if_neg t6] at h
  revert h
  cases hm : mayL kids at_ (c + 1) 0 with
  | mk c' o =>
   cases o with
   | none => intro h; cases h
   | some s =>
    intro h
    simp only [Bool.and_eq_true, decide_eq_true_eq] at h; obtain ⟨g1, g2, g3⟩ := mayL_good kids at_ (c + 1) 0 c' s hkids ha (by omega) (by omega) (by omega) (by omega) (by omega) hm
    simp only [goodT]; exact ⟨⟨by omega, by omega⟩, fun h => absurd h t3, fun _ => by omega, by omega, g3⟩
theorem mayL_good : ∀ (l : List S27) (at_ c sum c' s : Int), byteL l → 1 ≤ at_ → at_ ≤ 65536 → 0 ≤ c → c ≤ 1048576 → 0 ≤ sum → sum ≤ 1099511627776 * c → mayL l at_ c sum = (c', some s) → s = sum + wsum l ∧ 0 ≤ wsum l ∧ goodL l
 | [], at_, c, sum, c', s, _, _, _, _, _, _, _, h => by
  simp only [mayL, Prod.mk.injEq, Option.some.injEq] at h; simp only [wsum, goodL]; exact ⟨by omega, by omega, trivial⟩
 | t :: r, at_, c, sum, c', s, hb, ha, ha2, hc, hc2, h0, h1, h => by
  obtain ⟨hbt, hbr⟩ := (by simpa only [byteL] using hb : byteT t ∧ byteL r)
  have haw : wrap64 (at_ + 1) = at_ + 1 := wrap_id (by omega) (by omega)
  simp only [mayL, haw] at h; obtain ⟨_, m2⟩ := may_ref t (at_ + 1) c hbt (by omega) (by omega) hc hc2
  cases hm : mayN t (at_ + 1) c with
  | mk c2 b =>
   rw [hm] at h m2; cases b with
   | false => simp at h
   | true =>
    simp only at h; obtain ⟨k1, k2⟩ := m2 rfl; simp only at k1 k2; have hs := tsize_pos t; have hg := may_good t (at_ + 1) c hbt (by omega) (by omega) hc hc2 (by rw [hm])
    have hw := hg.w; rw [wrap_id (by omega) (by omega)] at h
    obtain ⟨q1, q2, q3⟩ := mayL_good r at_ c2 (sum + t.f2) c' s hbr ha ha2 (by omega) k1 (by omega) (by omega) h
    simp only [wsum, goodL]; exact ⟨by omega, by omega, hg, q3⟩
end
theorem ok_good (t : S27) (hb : byteT t) (h : okB t = true) : goodT t := may_good t 1 0 hb (by omega) (by omega) (by omega) (by omega) h
theorem eta27 (t : S27) : (⟨t.f0, t.f1, t.f2, t.f3⟩ : S27) = t := by cases t; rfl
theorem length_lsize (l : List S27) : l.length ≤ lsize l := by
 induction l with
 | nil => simp [lsize]
 | cons t r ih => have := tsize_pos t; simp only [List.length_cons, lsize]; omega
def rowOk (r : S94) : Prop := (0 ≤ r.f1 ∧ r.f1 ≤ 255) ∧ (0 ≤ r.f2 ∧ r.f2 ≤ 255)
mutual
def preT : S27 → Int → Int → List (S27 × Int × Int)
 | ⟨k, w, wd, l⟩, f, d => (⟨k, w, wd, l⟩, f, d) :: preTL l f d
def preTL : List S27 → Int → Int → List (S27 × Int × Int)
 | [], _, _ => []
 | t :: r, f, d => preT t f (wrap64 (d + 1)) ++ preTL r (wrap64 (f + t.f2)) d
end
mutual
theorem preT_length : ∀ (t : S27) (f d : Int), (preT t f d).length = tsize t
 | ⟨k, w, wd, l⟩, f, d => by simp only [preT, tsize, List.length_cons, preTL_length l f d]; omega
theorem preTL_length : ∀ (l : List S27) (f d : Int), (preTL l f d).length = lsize l
 | [], f, d => by simp [preTL, lsize]
 | t :: r, f, d => by simp only [preTL, lsize, List.length_append, preT_length t, preTL_length r]
end
def seenS (x : S27 × Int × Int) : S125 := ⟨x.1, ⟨x.2.1, wrap64 (x.2.1 + x.1.f2)⟩, x.2.2⟩
theorem cell_of_heap {W W' : World} {b o : Nat} (h : W'.heap[b]? = W.heap[b]?) : W'.cell? ⟨b, o, none⟩ = W.cell? ⟨b, o, none⟩ := by
 unfold World.cell?
 simp only [h]
theorem below_of_grownX {w w1 : World} (hg : w.grownBy w1 (Value.slice none 0 0).ownBlock) : Below w.heap.size w w1 := ⟨hg.os, hg.tape, hg.output, hg.size, fun k hk => hg.block k hk (by simp [Value.ownBlock])⟩
theorem infoSeen : (Try.prog.info? 125).map (fun i => (i.zero, i.size, i.bytes)) = some (some (.agg #[.int .u8 0, .int .u8 0, .int .i64 0, .slice none 0 0, .int .i64 0, .int .i64 0, .int .i64 0]), 7, 64) := by kernel_rfl
set_option maxHeartbeats 4000000 in
set_option maxRecDepth 100000 in
theorem add_calls (B0 : Nat) (okt : Nat → Prop) (hokt : ∀ k, okt k → k < B0) (z : Nat) : ∀ (t : S27), SizeOf.sizeOf t < z → ∀ (A : Option Addr) (c : Nat) (f d : Int) (v : Value) (L : List S125) (W : World), t.f3.length ≤ c → Kd.F k27 W okt A t.f3.length t.f3 → B0 ≤ W.heap.size →
  Kd.N k125 125 W B0 (fun k => okt k ∨ B0 ≤ k) v L → L.length + tsize t ≤ 2000000 →
  Calls Try.prog 77 #[v, .agg #[.int .u8 t.f0, .int .u8 t.f1, .int .i64 t.f2, .slice A t.f3.length c], .int .i64 f, .int .i64 d] W fun e W' => ∃ v', e = .returned v' ∧ Kd.N k125 125 W' B0 (fun k => okt k ∨ B0 ≤ k) v' (L ++ (preT t f d).map seenS) ∧ W.grownBy W' v.ownBlock ∧ (v'.ownBlock = v.ownBlock ∨ ∃ b, v'.ownBlock = some b ∧ W.heap.size ≤ b) := by
 induction z with
 | zero => intro t h; exact absurd h (Nat.not_lt_zero _)
 | succ z ih =>
 rintro ⟨k, w, wd, kids⟩ hz A c f d v L W hc hF hB hN hlen
 simp only at hc hF ⊢; have IH := zaa.mk ih; have HZ := zaa.mk hz; have HF := zaa.mk hF; have HC := zaa.mk hc; have HN := zaa.mk hN; have HLEN := zaa.mk hlen; have HB := zaa.mk hB; have hvl := Kd.N_lt hN; clear ih hz hF hc hN hlen hB; obtain ⟨W1, hW1⟩ : ∃ W1, W1 = W.alloc (.cells #[.int .u8 k, .int .u8 w, .int .i64 wd, .slice A kids.length c] 27) := ⟨_, rfl⟩; have hb1 : Below W.heap.size W W1 := by rw [hW1]; exact zad (Below.refl _ _) _
 have hX : W1.heap[W.heap.size]? = some (.cells #[.int .u8 k, .int .u8 w, .int .i64 wd, .slice A kids.length c] 27 (0, 0)) := by rw [hW1]; exact heap_alloc_new _ _
 have hs1 : W1.heap.size = W.heap.size + 1 := by rw [hW1]; simp
 have HX := zaa.mk hX; have HB1 := zaa.mk hb1; have HS1 := zaa.mk hs1; have HVL := zaa.mk hvl; have hkb0 := zae hX 0; have hkb1 := zae hX 1; have hkb2 := zae hX 2; have hkb3 := zae hX 3; have hlt := zaM hX; simp at hkb0 hkb1 hkb2 hkb3; have hu := Try.underlying27; have hus := Try.underlying117; have hue := Try.underlying125; have hm : kids.length ≤ 9223372036854775807 := Kd.F_max HF.out; clear hb1 hX hs1 hvl; go_enter Try.func77, Try.ntmps77
 go_upto_region 1 with (fail)
 rw [← hW1]; clear hW1; have HP := zaa.mk (k125_mkF W1 okt (seenS (⟨k, w, wd, kids⟩, f, d)) (A3 := A) (c3 := c) HC.out (Kd.F_below HF.out HB1.out)); have HN1 := zaa.mk (Kd.N_below HN.out HB1.out); go_wp2_with (at_builtin; refine Kd.N_append k125 (w0 := W) B0 rfl (.tmp 10) (.tmp 20) 122 125 _ 64 rfl Try.underlying122 infoSeen rfl (by decide) (by decide) v L (seenS (⟨k, w, wd, kids⟩, f, d)) [.int .u8 k, .int .u8 w, .int .i64 wd, .slice A kids.length c, .int .i64 f, .int .i64 (wrap64 (f + wd)), .int .i64 d] (fun k => okt k ∨ B0 ≤ k) okt rfl rfl HP.out (fun q hq => ⟨.inl hq, fun e => by have h1 := Kd.N_base HN1.out q e.symm; have h2 := hokt q hq; omega⟩) (fun q hq => .inr (by have := HB.out; have := HS1.out; omega)) HN1.out (HB1.out.mono HB.out) (by have := HB.out; have := HS1.out; omega) (by have := HLEN.out; simp only [tsize] at this; omega) ?_; intro v1 w1 hn1 _ hg1 hat1)
 have HN1' := zaa.mk hn1; have HG1 := zaa.mk hg1; have HAT1 := zaa.mk hat1; have HNE := zaa.mk (show (some W.heap.size : Option Nat) ≠ v.ownBlock from fun e => by have := HVL.out _ e.symm; omega)
 clear hn1 hg1 hat1 hkb0 hkb1 hkb2 hkb3 HP HN1 hlt; go_loopg [0, 2, 9] kids.length (fun kq v0 v2 v9 w' => ∃ (i : Nat) (f' : Int) (D : List S125) (vv : Value), vv = v0 ∧ v9 = .int .i64 i ∧ v2 = .int .i64 f' ∧ i ≤ kids.length ∧ zaa (kq = kids.length - i) ∧ zaa (Kd.N k125 125 w' B0 (fun k => okt k ∨ B0 ≤ k) v0 (L ++ D)) ∧ zaa (W1.grownBy w' v.ownBlock) ∧ zaa (v0.ownBlock = v.ownBlock ∨ ∃ b, v0.ownBlock = some b ∧ W1.heap.size ≤ b) ∧ zaa ((preT ⟨k, w, wd, kids⟩ f d).map seenS = D ++ (preTL (kids.drop i) f' d).map seenS))
 case atStart => exact ⟨0, f, [seenS (⟨k, w, wd, kids⟩, f, d)], _, rfl, rfl, rfl, Nat.zero_le _, ⟨rfl⟩, HN1', HG1, HAT1, ⟨by simp only [preT, List.map_cons, List.drop_zero, List.singleton_append]⟩⟩
 case round =>
  obtain ⟨i, f', D, vv, rfl, rfl, rfl, hi, HK, HNr, HGr, HAr, HPr⟩ := hrel; have hX' := (HGr.out.block _ (zaM HX.out) HNE.out).trans HX.out; have hkb3 := zae hX' 3; simp at hkb3; have HX' := zaa.mk hX'; have HFr := zaa.mk (Kd.F_grown (Kd.F_below HF.out HB1.out) HGr.out (fun q hq e => by have h1 := Kd.N_base HN.out q e.symm; have h2 := hokt q hq; omega))
  clear hX'; by_cases hlt : i < kids.length
  ·obtain ⟨ad, A3, c3, e, g0, g1, g2, gg3, gl, gF⟩ := at_T27F HFr.out i hlt
   subst e; obtain ⟨t, hts⟩ : ∃ t, t = zbm kids i := ⟨_, rfl⟩; rw [← hts] at g0 g1 g2 gg3 gl gF; have HMEM := zaa.mk (show t ∈ kids by rw [hts, rd_at27 kids i hlt]; exact List.getElem_mem hlt)
   have HP2 := zaa.mk (show (preT ⟨k, w, wd, kids⟩ f d).map seenS = (D ++ (preT t f' (wrap64 (d + 1))).map seenS) ++ (preTL (kids.drop (i + 1)) (wrap64 (f' + t.f2)) d).map seenS by
    rw [HPr.out, List.drop_eq_getElem_cons hlt, preTL, hts, rd_at27 kids i hlt, List.map_append, List.append_assoc])
   have HSZ := zaa.mk (show L.length + D.length + tsize t ≤ 2000000 by
    have h1 := congrArg List.length HP2.out; have h2 := HLEN.out; simp only [List.length_map, List.length_append, preT_length, preTL_length] at h1; omega)
   have HAD := zaa.mk (show (ad.add (i * 4)).block < B0 by
    obtain ⟨ad', cs, e', _, _, _, hok⟩ := Kd.F_get HFr.out z27 (i : Int) (by omega) (by omega)
    injection e' with e'
    subst e'; rw [add_block]; exact hokt _ (hok (by decide)))
   have GF := zaa.mk gF; have GL := zaa.mk gl; clear HPr hts gF gl; obtain ⟨tk, tw, twd, tks⟩ := t; simp only at g0 g1 g2 gg3; have HCALL := zaa.mk (IH.out ⟨tk, tw, twd, tks⟩ (by have h1 := List.sizeOf_lt_of_mem HMEM.out; have h2 := HZ.out; simp only [S27.mk.sizeOf_spec] at h2 h1 ⊢; omega) A3 c3 f' (wrap64 (d + 1)) vv (L ++ D) wr GL.out GF.out (by have := HGr.out.size; have := HB.out; have := HS1.out; omega) HNr.out (by rw [List.length_append]; exact HSZ.out))
   have HK2 := zaa.mk (show ∀ w2 : World, wr.grownBy w2 vv.ownBlock → w2.cell? ⟨(ad.add (i * 4)).block, (ad.add (i * 4)).off + 2, none⟩ = some (.int .i64 twd) ∧ w2.cell? ⟨W.heap.size, 3, none⟩ = some (.slice (some ad) kids.length c) from fun w2 hg => by
    refine ⟨?_, ?_⟩
    ·rw [cell_of_heap (hg.block _ (World.block_lt_of_cell? wr _ g2) (fun e => ?_)), g2]
     have h1 : B0 ≤ (ad.add (i * 4)).block := Kd.N_base HNr.out _ e.symm; have h2 := HAD.out; omega
    ·rw [cell_of_heap (hg.block _ (zaM HX'.out) (fun e => ?_)), hkb3]
     rcases HAr.out with h | ⟨b, h, hb⟩
     ·exact HNE.out (by rw [← h]; exact e)
     ·rw [h] at e
      injection e with e
      have := HS1.out; omega)
   go_wp2_with (go_at_call 77; refine HCALL.out.mono ?_; rintro e w2 ⟨v2, rfl, hn2, hg2, hat2⟩; obtain ⟨q2, q3⟩ := HK2.out w2 hg2; have HN2 := zaa.mk hn2; have HG2 := zaa.mk hg2; have HAT2 := zaa.mk hat2; clear hn2 hg2 hat2)
   go_roundg (kids.length - (i + 1))
   case measure => have := HK.out; omega
   case rel => exact ⟨i + 1, wrap64 (f' + twd), D ++ (preT ⟨tk, tw, twd, tks⟩ f' (wrap64 (d + 1))).map seenS, v2, rfl, by go_num, rfl, by omega, ⟨rfl⟩, ⟨by rw [← List.append_assoc]; exact HN2.out⟩, ⟨by
     rcases HAr.out with h | ⟨b, h, hb⟩
     ·exact World.grownBy.trans HGr.out (by rw [← h]; exact HG2.out)
     ·have k := HG2.out
      have h1 := HGr.out; exact ⟨k.os.trans h1.os, k.tape.trans h1.tape, k.output.trans h1.output, Nat.le_trans h1.size k.size, fun q hq hr => (k.block q (Nat.lt_of_lt_of_le hq h1.size) (fun e => by rw [h] at e; injection e with e; omega)).trans (h1.block q hq hr)⟩⟩, ⟨by
     rcases HAT2.out with h | ⟨b, h, hb⟩
     ·rw [h]; exact HAr.out
     ·exact .inr ⟨b, h, Nat.le_trans HGr.out.size hb⟩⟩, HP2⟩
  ·have hi2 : kids.length ≤ i := Nat.not_lt.1 hlt
   have HP3 := zaa.mk (show (preT ⟨k, w, wd, kids⟩ f d).map seenS = D by rw [HPr.out, List.drop_eq_nil_of_le hi2, preTL, List.map_nil, List.append_nil])
   clear HPr; go_wp2
   go_ret
   exact ⟨vv, rfl, by rw [HP3.out]; exact HNr.out, World.grownBy.trans (za8 HB1.out _) HGr.out, by
    rcases HAr.out with h | ⟨b, h, hb⟩
    ·exact .inl h
    ·exact .inr ⟨b, h, by have := HS1.out; omega⟩⟩
def za7.f (k : Nat) (a0_0 : Int) (a0_1 : Int) (a0_2 : Int) (l0_3 : List (S27)) : Option (List (S125)) :=
 (za3.f k a0_0 a0_1 a0_2 l0_3).bind fun r => if r = true then (if tsize ⟨a0_0, a0_1, a0_2, l0_3⟩ ≤ 2000000 then some ((preT ⟨a0_0, a0_1, a0_2, l0_3⟩ 0 0).map seenS) else none) else some []
theorem za7.mono : ∀ a0_0 a0_1 a0_2 l0_3 k, LeO (za7.f k a0_0 a0_1 a0_2 l0_3) (za7.f (k + 1) a0_0 a0_1 a0_2 l0_3) := fun _ _ _ _ k => LeO.bind (za3.mono _ _ _ _ k) (fun _ => LeO.refl _)
set_option maxHeartbeats 1000000 in
set_option maxRecDepth 100000 in
theorem za7.calls (k : Nat) (a0_0 : Int) (a0_1 : Int) (a0_2 : Int) (P0_3_ : Nat → Prop) (A0_3 : Option Addr) (c0_3 : Nat) (l0_3 : List (S27)) (r : List (S125)) (w : World) (hs0_3 : Kd.V k27 27 w w.heap.size (fun k_ => P0_3_ k_) (.slice A0_3 l0_3.length c0_3) l0_3) (h : za7.f k a0_0 a0_1 a0_2 l0_3 = some r) :
  Calls Try.prog 70 #[.agg #[.int .u8 a0_0, .int .u8 a0_1, .int .i64 a0_2, .slice A0_3 l0_3.length c0_3]] w fun e w' => ∃ v0_ : Value, e = .returned v0_ ∧ Kd.V k125 125 w' w.heap.size (fun k_ => (P0_3_ k_ ∨ w.heap.size ≤ k_)) v0_ r ∧ Below w.heap.size w w' := by
 obtain ⟨A', c', e0, hc0, hF0⟩ := hs0_3; injection e0 with e1 _ e2
 subst e1 e2; unfold za7.f at h
 obtain ⟨b, hb, h⟩ := Option.bind_eq_some_iff.1 h; have HRR := zaa.mk hb; have HF := zaa.mk (Kd.F_bound hF0); have HC := zaa.mk hc0; clear hb hF0 hc0; obtain ⟨W1, hW1⟩ : ∃ W1, W1 = w.alloc (.cells #[.int .u8 a0_0, .int .u8 a0_1, .int .i64 a0_2, .slice A0_3 l0_3.length c0_3] 27) := ⟨_, rfl⟩; have hb1 : Below w.heap.size w W1 := by rw [hW1]; exact zad (Below.refl _ _) _
 have hX : W1.heap[w.heap.size]? = some (.cells #[.int .u8 a0_0, .int .u8 a0_1, .int .i64 a0_2, .slice A0_3 l0_3.length c0_3] 27 (0, 0)) := by rw [hW1]; exact heap_alloc_new _ _
 have HX := zaa.mk hX; have HB1 := zaa.mk hb1; have hkb0 := zae hX 0; have hkb1 := zae hX 1; have hkb2 := zae hX 2; have hkb3 := zae hX 3; have hlt := zaM hX; simp at hkb0 hkb1 hkb2 hkb3; have hu := Try.underlying27; have H := zaa.mk h; clear hb1 hX h; go_enter Try.func70, Try.ntmps70
 go_upto_region 1 with (fail)
 rw [← hW1]; clear hW1; cases b with
 | false =>
  have H2 := H.out; rw [if_neg (by decide)] at H2
  cases H2; clear H; go_wp2_with (go_at_call 56; refine (za3.calls k _ _ _ _ _ _ false _ (Kd.za4 (Kd.F_now HF.out) HB1.out) HC.out HRR.out).mono ?_; rintro e w2 ⟨rfl, hb2⟩; have HB2 := zaa.mk (zan HB1.out hb2); clear hb2)
  go_ret
  exact ⟨_, rfl, Kd.V_nil _ _ _ _ _, HB2.out⟩
 | true =>
  have H2 := H.out; rw [if_pos rfl] at H2; by_cases hsz : tsize ⟨a0_0, a0_1, a0_2, l0_3⟩ ≤ 2000000
  case neg => rw [if_neg hsz] at H2; cases H2
  rw [if_pos hsz] at H2; clear H; have HEQ := zaa.mk (Option.some.inj H2); have HSZ := zaa.mk hsz; clear H2 hsz; go_wp2_with (first
   | (go_at_call 56; refine (za3.calls k _ _ _ _ _ _ true _ (Kd.za4 (Kd.F_now HF.out) HB1.out) HC.out HRR.out).mono ?_; rintro e w2 ⟨rfl, hb2⟩; have HB2 := zaa.mk (zan HB1.out hb2); have hX2 := zaU HX.out hb2; have HX2 := zaa.mk hX2; have hkc0 := zae hX2 0; have hkc1 := zae hX2 1; have hkc2 := zae hX2 2; have hkc3 := zae hX2 3; have hlt2 := zaM hX2; simp at hkc0 hkc1 hkc2 hkc3; clear hkb0 hkb1 hkb2 hkb3 hlt hX2 hb2)
   | (go_at_call 77; refine (add_calls w.heap.size (fun q => P0_3_ q ∧ q < w.heap.size) (fun q hq => hq.2) (SizeOf.sizeOf (⟨a0_0, a0_1, a0_2, l0_3⟩ : S27) + 1) ⟨a0_0, a0_1, a0_2, l0_3⟩ (Nat.lt_succ_self _) A0_3 c0_3 0 0 (.slice none 0 0) [] _ HC.out (Kd.F_below HF.out HB2.out) HB2.out.size (Kd.N_nil _ _ _ _ _) (by simpa using HSZ.out)).mono ?_; rintro e w3 ⟨v3, rfl, hn3, hg3, _⟩; have HN3 := zaa.mk hn3; have HB3 := zaa.mk (below_of_grownX hg3); clear hn3 hg3))
  go_ret
  have hN := HN3.out; rw [List.nil_append, HEQ.out] at hN; exact ⟨_, rfl, Kd.V_mono (Kd.N_V (base' := w.heap.size) hN) (fun q hq => Or.imp_left And.left hq), zan HB2.out HB3.out⟩
section
attribute [local go_sem] zbk zbi zbz zby zbb zba zbj zbh
def zaL.l0 : Nat → List (S125) → List (S27) → Int → Option ((List (S27)))
 | 0, _, _, _ => none
 | k + 1, x3, x4, x5 => if x5 < (x3.length : Int) then (if 0 ≤ x5 then (if ((zbq x3 x5).f0.f0) ≤ 50 then (if x4.length < 3518437208883 then (zaL.l0 k x3 (x4 ++ [(⟨(zbq x3 x5).f0.f0, (zbq x3 x5).f0.f1, (zbq x3 x5).f0.f2, (zbq x3 x5).f0.f3⟩ : S27)]) (wrap64 (x5 + 1))) else (none)) else (zaL.l0 k x3 x4 (wrap64 (x5 + 1)))) else (none)) else (some x4)
def zaL.f (k : Nat) (a0_0 : Int) (a0_1 : Int) (a0_2 : Int) (l0_3 : List (S27)) : Option ((List (S27))) := (za7.f k a0_0 a0_1 a0_2 l0_3).bind fun t134 => (zaL.l0 k t134 ([] : List (S27)) 0)
theorem zaL.zbn : ∀ k, (∀ y0 y1 y2, LeO (zaL.l0 k y0 y1 y2) (zaL.l0 (k + 1) y0 y1 y2))
 | 0 => fun _ _ _ r h => by simp [zaL.l0] at h
 | k + 1 => by
  have ih0 := zaL.zbn k
  ·intro y0 y1 y2
   unfold zaL.l0
   repeat' first
   | (with_reducible exact ih0 _ _ _)
   | (with_reducible exact za7.mono _ _ _ _ _)
   | (with_reducible exact LeO.refl _)
   | (with_reducible exact LeO.none _)
   | (with_reducible refine LeO.ite ?_ ?_)
   | (with_reducible refine LeO.bind ?_ (fun _ => ?_))
   | exact ih0 _ _ _
   | exact za7.mono _ _ _ _ _
   | exact LeO.none _
   | refine LeO.ite ?_ ?_
   | refine LeO.bind ?_ (fun _ => ?_)
theorem zaL.mono : ∀ a0 a1 a2 a3 k, LeO (zaL.f k a0 a1 a2 a3) (zaL.f (k + 1) a0 a1 a2 a3) := by
 intro a0 a1 a2 a3 k
 have ih0 := zaL.zbn k; unfold zaL.f
 repeat' first
   | (with_reducible exact ih0 _ _ _)
   | (with_reducible exact za7.mono _ _ _ _ _)
   | (with_reducible exact LeO.refl _)
   | (with_reducible exact LeO.none _)
   | (with_reducible refine LeO.ite ?_ ?_)
   | (with_reducible refine LeO.bind ?_ (fun _ => ?_))
   | exact ih0 _ _ _
   | exact za7.mono _ _ _ _ _
   | exact LeO.none _
   | refine LeO.ite ?_ ?_
   | refine LeO.bind ?_ (fun _ => ?_)
set_option maxHeartbeats 8000000 in
set_option maxRecDepth 100000 in
theorem zaL.calls (k : Nat) (a0_0 : Int) (a0_1 : Int) (a0_2 : Int) (P0_3_ : Nat → Prop) (A0_3 : Option Addr) (c0_3 : Nat) (l0_3 : List (S27)) (r : List (S27)) (w : World) (hs0_3 : Kd.V k27 27 w w.heap.size (fun k_ => P0_3_ k_) (.slice A0_3 l0_3.length c0_3) l0_3) (h : zaL.f k a0_0 a0_1 a0_2 l0_3 = some r) :
  Calls Try.prog 57 #[.agg #[.int .u8 a0_0, .int .u8 a0_1, .int .i64 a0_2, .slice A0_3 l0_3.length c0_3]] w fun e w' => ∃ v0_ : Value, e = .returned (v0_) ∧ Kd.N k27 27 w' w.heap.size (fun k_ => (P0_3_ k_ ∨ w.heap.size ≤ k_)) v0_ r ∧ Below w.heap.size w w' := by
 have hu27 := Try.underlying27; have HO0_3 := zaa.mk (show Kd.V k27 27 w w.heap.size (fun k_ => (P0_3_ k_ ∨ w.heap.size ≤ k_)) (.slice A0_3 l0_3.length c0_3) l0_3 from Kd.V_mono hs0_3 (fun k_ hk => .inl hk))
 have HB := zaa.mk (Below.refl w.heap.size w); have H : ((za7.f k a0_0 a0_1 a0_2 l0_3).bind fun t134 => (zaL.l0 k t134 ([] : List (S27)) 0)) = some r := h
 clear h; replace H := Option.bind_eq_some_iff.mp H; obtain ⟨t134, A20, H⟩ := H; replace H : (zaL.l0 k t134 ([] : List (S27)) 0) = some r := H; have A2 := zaa.mk A20; clear A20; have H' := zaa.mk H; clear H; go_enter Try.func57, Try.ntmps57
 go_wp2_with (first | ((with_reducible refine za5 (N := 1) rfl ?_); refine zbu ?hg (N := 1) ?hd (cs := #[.int .u8 a0_0, .int .u8 a0_1, .int .i64 a0_2, .slice A0_3 l0_3.length c0_3]) (t := 27) ?hr ?_; (case hd => rfl); (case hg => rfl); (case hr => first | (go_simp; done) | (go_simp; rfl)); intro gb133 hg w3 hbox hb; have n0_ := zaa.mk (Kd.V_below (Kd.V_elderB (by (with_reducible repeat (first | apply Kd.V_alloc | apply Kd.V_drewN | apply Kd.V_drew)); exact HO0_3.out) gb133 (Nat.le_of_eq hg.symm)) hb); have n1_ := zaa.mk (zan (by repeat (first | exact HB.out | apply zad | apply zac | apply zaf)) hb); have n2_ := zaa.mk (hbox); have n3_ := zaa.mk ((by rw [hg]; exact (zaB (by repeat (first | exact HB.out | apply zad | apply zac | apply zaf))) : w.heap.size ≤ gb133)); have n4_ := zaa.mk ((by rw [hg]; exact (zaB (by repeat (first | exact HB.out | apply zad | apply zac | apply zaf))) : w.heap.size ≤ gb133)); clear HO0_3; clear HB; have HO0_3 := n0_; have HB := n1_; have BK133 := n2_; have GW133 := n3_; have GE133 := n4_; clear n0_ n1_ n2_ n3_ n4_; clear hb hbox hg; have hcz4_0 : w3.cell? ⟨gb133, 0, none⟩ = some (.int .u8 a0_0) := (zae BK133.out 0).trans rfl; have hcz4_1 : w3.cell? ⟨gb133, 1, none⟩ = some (.int .u8 a0_1) := (zae BK133.out 1).trans rfl; have hcz4_2 : w3.cell? ⟨gb133, 2, none⟩ = some (.int .i64 a0_2) := (zae BK133.out 2).trans rfl; have hcz4_3 : w3.cell? ⟨gb133, 3, none⟩ = some (.slice A0_3 l0_3.length c0_3) := (zae BK133.out 3).trans rfl; have hfz4_0 := zab BK133.out 0; have hfz4_1 := zab BK133.out 1; have hfz4_2 := zab BK133.out 2; have hfz4_3 := zab BK133.out 3) | ((with_reducible refine zaO (f := 70) rfl ?_); refine zbg (some 7) rfl rfl Try.func70 (by kernel_rfl) rfl #[.agg #[.int .u8 a0_0, .int .u8 a0_1, .int .i64 a0_2, .slice A0_3 l0_3.length c0_3]] rfl (by (try simp only [List.map_toArray, List.map_cons, List.map_nil]); first | done | rfl | (simp only [List.length_drop, List.length_take]; rfl)) ?_; (with_reducible refine (za7.calls k a0_0 a0_1 a0_2 (fun k_ => ((P0_3_ k_ ∨ w.heap.size ≤ k_) ∧ k_ ≠ gb133)) _ _ l0_3 t134 _ ?side1 A2.out).mono ?_); (case side1 => exact HO0_3.out); rintro e w5 ⟨v135, rfl, ho0, hb⟩; refine ⟨_, rfl, ?_⟩; have n0_ := zaa.mk (Kd.V_below (by (with_reducible repeat (first | apply Kd.V_alloc | apply Kd.V_drewN | apply Kd.V_drew)); exact HO0_3.out) hb); have n1_ := zaa.mk (Kd.V_lower (Kd.V_mono (ok' := fun k_ => (P0_3_ k_ ∨ w.heap.size ≤ k_) ∧ k_ ≠ gb133) ho0 (fun k_ hk_ => ⟨Or.elim hk_ (fun hs_ => hs_.1) (fun hn_ => (.inr (Nat.le_trans (zaB (by repeat (first | (with_reducible first | exact HB.out | apply zad | apply zac | apply zaf | refine zaJ ?_ GE133.out) | exact HB.out))) hn_))), Or.elim hk_ (fun hs_ => hs_.2) (fun hn_ => (Kd.freshB (g := gb133) (o := .cells #[.int .u8 a0_0, .int .u8 a0_1, .int .i64 a0_2, .slice A0_3 l0_3.length c0_3] 27 (0, 0)) (by (with_reducible repeat (first | refine zaG ?_ _ | refine zaP ?_ | refine zaH ?_ _)); exact BK133.out) k_ hn_))⟩)) (zaB (by repeat (first | (with_reducible first | exact HB.out | apply zad | apply zac | apply zaf | refine zaJ ?_ GE133.out) | exact HB.out)))); have n2_ := zaa.mk (zaU (g := gb133) (o := .cells #[.int .u8 a0_0, .int .u8 a0_1, .int .i64 a0_2, .slice A0_3 l0_3.length c0_3] 27 (0, 0)) (by (with_reducible repeat (first | refine zaG ?_ _ | refine zaP ?_ | refine zaH ?_ _)); exact BK133.out) hb); have n3_ := zaa.mk (zan (by repeat (first | (with_reducible first | exact HB.out | apply zad | apply zac | apply zaf | refine zaJ ?_ GE133.out) | exact HB.out)) hb); clear HO0_3; clear BK133; clear HB; have HO0_3 := n0_; have HO136 := n1_; have BK133 := n2_; have HB := n3_; clear n0_ n1_ n2_ n3_; (try clear hb); (try clear hb2); (try clear hk); (try clear hi); (try clear ho0)))
 go_loopg [4, 5] k (fun kq v4 v5 w' => ∃ (x4_1 : List (S27)) (x5_1 : Int), v5 = .int .i64 x5_1 ∧ zaa (zaL.l0 kq t134 x4_1 x5_1 = some r) ∧ zaa (kq ≤ k) ∧ zaa (Kd.V k125 125 w' w.heap.size (fun k_ => (P0_3_ k_ ∨ w.heap.size ≤ k_) ∧ some k_ ≠ (v4 : Value).ownBlock ∧ k_ ≠ gb133) v135 t134) ∧ zaa (Kd.N k27 27 w' w.heap.size (fun k_ => (P0_3_ k_ ∨ w.heap.size ≤ k_) ∧ k_ ≠ gb133) v4 x4_1) ∧ zaa (Kd.V k27 27 w' w.heap.size (fun k_ => (P0_3_ k_ ∨ w.heap.size ≤ k_) ∧ some k_ ≠ (v4 : Value).ownBlock ∧ k_ ≠ gb133) (.slice A0_3 l0_3.length c0_3) l0_3) ∧ zaa (w'.heap[gb133]? = some (.cells #[.int .u8 a0_0, .int .u8 a0_1, .int .i64 a0_2, (.slice A0_3 l0_3.length c0_3)] 27 (0, 0))) ∧ zaa (Below w.heap.size w w'))
 case atStart => exact ⟨(([] : List (S27))), (0), (by first | rfl | (simp; done) | (simp [*]; done)), H', ⟨Nat.le_refl _⟩, ⟨by (with_reducible repeat (first | apply Kd.V_alloc | apply Kd.V_drewN | apply Kd.V_drew)); exact Kd.V_mono HO136.out (fun _ hk => ⟨hk.1, ⟨(by simp [Value.ownBlock]), hk.2⟩⟩)⟩, ⟨by first | exact Kd.R_nil _ _ _ _ _ | exact Kd.N_nil _ _ _ _ _ | exact Kd.V_nil _ _ _ _ _ | exact Kd.Q_nil _ _ _ _ _ | exact Kd.S_nil _ _ _ _ _⟩, ⟨by (with_reducible repeat (first | apply Kd.V_alloc | apply Kd.V_drewN | apply Kd.V_drew)); exact Kd.V_mono HO0_3.out (fun _ hk => ⟨hk.1, ⟨(by simp [Value.ownBlock]), hk.2⟩⟩)⟩, ⟨by (with_reducible repeat (first | refine zaG ?_ _ | refine zaP ?_ | refine zaH ?_ _)); exact BK133.out⟩, ⟨by repeat (first | (with_reducible first | exact HB.out | apply zad | apply zac | apply zaf | refine zaJ ?_ GE133.out) | exact HB.out)⟩⟩
 case round =>
  clear H'; try clear p2
  try clear c5
  try clear hcz4_0
  try clear hcz4_1
  try clear hcz4_2
  try clear hcz4_3
  try clear hfz4_0
  try clear hfz4_1
  try clear hfz4_2
  try clear hfz4_3
  obtain ⟨x4_1, x5_1, rfl, HA, HK1, HO_3, HO_4, HO_134003, BK133, HB⟩ := hrel; cases gk with
  | zero => exact absurd HA.out (by simp [zaL.l0])
  | succ k1 =>
   have H := HA.out; clear HA; simp only [zaL.l0] at H; by_cases c6 : x5_1 < (t134.length : Int)
   ·rw [if_pos c6] at H
    have c6b0 : decide (x5_1 < (t134.length : Int)) = true := decide_eq_true c6; clear c6; by_cases c7 : 0 ≤ x5_1
    ·rw [if_pos c7] at H
     have c7b0 : decide (0 ≤ x5_1) = true := decide_eq_true c7; clear c7; by_cases c8 : ((zbq t134 x5_1).f0.f0) ≤ 50
     ·rw [if_pos c8] at H
      have c8b0 : decide (((zbq t134 x5_1).f0.f0) ≤ 50) = true := decide_eq_true c8; clear c8; by_cases c9 : x4_1.length < 3518437208883
      ·rw [if_pos c9] at H
       have LMc9 := zaa.mk c9; clear c9; obtain ⟨y139, hy139⟩ : ∃ y_ : List (S27), y_ = (x4_1 ++ [(⟨(zbq t134 x5_1).f0.f0, (zbq t134 x5_1).f0.f1, (zbq t134 x5_1).f0.f2, (zbq t134 x5_1).f0.f3⟩ : S27)]) := ⟨_, rfl⟩; replace H : (zaL.l0 k1 t134 y139 (wrap64 (x5_1 + 1))) = some r := by first | (rw [hy139]; with_reducible exact H) | (have H2_ := (Option.bind_some _ _).symm.trans H; rw [hy139]; with_reducible exact H2_) | (have H2_ := (Option.bind_some _ _).symm.trans H; with_reducible exact H2_) | with_reducible exact H | (rw [hy139]; exact H) | exact H
       have Ny139 := zaa.mk hy139; clear hy139; have H' := zaa.mk H; clear H; obtain ⟨Ao10, co10, eo10⟩ := Kd.V_slice HO_3.out; subst eo10; have p137 : 0 ≤ (x5_1 : Int) := of_decide_eq_true (by assumption)
       have q137 : x5_1 < (t134.length : Int) := of_decide_eq_true (by assumption)
       obtain ⟨ad137, A137_3, c137_3, e137, hx137_0, hx137_1, hx137_2, hx137_3, hx137_4, hx137_5, hx137_6, hl137_3, hi137_3⟩ := at_T125 (Kd.V_reads' HO_3.out).2.2 x5_1 p137 q137; cases e137; obtain ⟨ce137, hce137, hMe137, hcc137⟩ := Kd.V_get HO_3.out z125 x5_1 p137 (by first | exact q137 | exact of_decide_eq_true (by assumption) | (have e_ := (Kd.V_reads' HO_3.out).1; omega))
       obtain ⟨ua137_3, uc137_3, rfl, ul137_3, ge137_3⟩ := k125_openF hMe137; have hv137_3 := hcc137 3 _ rfl; rw [zbp _ _ 3 (by omega)] at hv137_3
       replace hv137_3 := Option.some.inj (hv137_3.symm.trans hx137_3); injection hv137_3 with hva_ hvn_ hvc_
       rw [hva_] at ge137_3; rw [hvc_] at ul137_3; have HL137_3 := zaa.mk (show Kd.V k27 27 _ w.heap.size _ _ ((zbq t134 x5_1).f0.f3) from Kd.V_mk ul137_3 ge137_3)
       clear hva_ hvn_ hvc_ ge137_3 ul137_3; clear hcc137 hce137; have HR137_3 := zaa.mk hi137_3; have HC137_3 := zaa.mk hl137_3; clear hi137_3 hl137_3; replace p137 := eq_true p137; replace q137 := eq_true q137; have p138 : 0 ≤ (x5_1 : Int) := of_decide_eq_true (by assumption)
       have q138 : x5_1 < (t134.length : Int) := of_decide_eq_true (by assumption)
       obtain ⟨ad138, A138_3, c138_3, e138, hx138_0, hx138_1, hx138_2, hx138_3, hx138_4, hx138_5, hx138_6, hl138_3, hi138_3⟩ := at_T125 (Kd.V_reads' HO_3.out).2.2 x5_1 p138 q138; obtain rfl : ad137 = ad138 := (by injection e138)
       obtain ⟨ce138, hce138, hMe138, hcc138⟩ := Kd.V_get HO_3.out z125 x5_1 p138 (by first | exact q138 | exact of_decide_eq_true (by assumption) | (have e_ := (Kd.V_reads' HO_3.out).1; omega))
       obtain ⟨ua138_3, uc138_3, rfl, ul138_3, ge138_3⟩ := k125_openF hMe138; have hv138_3 := hcc138 3 _ rfl; rw [zbp _ _ 3 (by omega)] at hv138_3
       replace hv138_3 := Option.some.inj (hv138_3.symm.trans hx138_3); injection hv138_3 with hva_ hvn_ hvc_
       rw [hva_] at ge138_3; rw [hvc_] at ul138_3; have HL138_3 := zaa.mk (show Kd.V k27 27 _ w.heap.size _ _ ((zbq t134 x5_1).f0.f3) from Kd.V_mk ul138_3 ge138_3)
       clear hva_ hvn_ hvc_ ge138_3 ul138_3; clear hcc138 hce138; have HR138_3 := zaa.mk hi138_3; have HC138_3 := zaa.mk hl138_3; clear hi138_3 hl138_3; replace p138 := eq_true p138; replace q138 := eq_true q138; have ea_ := Option.some.inj (hx137_3.symm.trans hx138_3); injection ea_ with ea_ en_ ec_
       subst ea_; subst ec_; clear en_; go_wp2_with (first | ((with_reducible refine gate_builtin (b := .append) (xs := #[.tmp 21, .tmp 27]) rfl ?_); at_builtin; refine Kd.N_append k27 (w0 := w) w.heap.size rfl (.tmp 21) (.tmp 27) 25 27 (.agg #[(.int .u8 0), (.int .u8 0), (.int .i64 0), (.slice none 0 0)]) 40 rfl Try.underlying25 info27 rfl (by decide) (by omega) u4 x4_1 (⟨(zbq t134 x5_1).f0.f0, (zbq t134 x5_1).f0.f1, (zbq t134 x5_1).f0.f2, (zbq t134 x5_1).f0.f3⟩ : S27) [.int .u8 ((zbq t134 x5_1).f0.f0), .int .u8 ((zbq t134 x5_1).f0.f1), .int .i64 ((zbq t134 x5_1).f0.f2), .slice A137_3 ((zbq t134 x5_1).f0.f3).length c137_3] (fun k_ => (P0_3_ k_ ∨ w.heap.size ≤ k_) ∧ k_ ≠ gb133) (fun k_ => ((fun k_ => (P0_3_ k_ ∨ w.heap.size ≤ k_) ∧ k_ ≠ gb133)) k_ ∧ some k_ ≠ (u4 : Value).ownBlock) rfl rfl ?aP (fun _ hk => hk) ?aF ?aO ?aB ?aS ?aL ?_; (case aP => exact (k27_mkF _ _ (⟨(zbq t134 x5_1).f0.f0, (zbq t134 x5_1).f0.f1, (zbq t134 x5_1).f0.f2, (zbq t134 x5_1).f0.f3⟩ : S27) (Kd.V_reads' (Kd.V_mono (ok' := (fun k_ => ((fun k_ => (P0_3_ k_ ∨ w.heap.size ≤ k_) ∧ k_ ≠ gb133)) k_ ∧ some k_ ≠ (u4 : Value).ownBlock)) (HL138_3.out) (fun k_ hk => ⟨⟨hk.1, hk.2.2⟩, hk.2.1⟩))).2.1 (Kd.V_F (Kd.V_mono (ok' := (fun k_ => ((fun k_ => (P0_3_ k_ ∨ w.heap.size ≤ k_) ∧ k_ ≠ gb133)) k_ ∧ some k_ ≠ (u4 : Value).ownBlock)) (HL138_3.out) (fun k_ hk => ⟨⟨hk.1, hk.2.2⟩, hk.2.1⟩))))); (case aB => exact (by repeat (first | (with_reducible first | exact HB.out | apply zad | apply zac | apply zaf | refine zaJ ?_ GE133.out) | exact HB.out))); (case aF => exact (fun k_ hk => ⟨(.inr (Nat.le_trans (zaB (by repeat (first | (with_reducible first | exact HB.out | apply zad | apply zac | apply zaf | refine zaJ ?_ GE133.out) | exact HB.out))) hk)), Kd.freshB (g := gb133) (o := .cells #[.int .u8 a0_0, .int .u8 a0_1, .int .i64 a0_2, .slice A0_3 l0_3.length c0_3] 27 (0, 0)) (by (with_reducible repeat (first | refine zaG ?_ _ | refine zaP ?_ | refine zaH ?_ _)); exact BK133.out) k_ hk⟩)); (case aO => exact (by (with_reducible repeat (first | apply Kd.N_alloc | apply Kd.N_drewN | apply Kd.N_drew)); exact HO_4.out)); (case aS => exact (zaB (by repeat (first | (with_reducible first | exact HB.out | apply zad | apply zac | apply zaf | refine zaJ ?_ GE133.out) | exact HB.out)))); (case aL => have := LMc9.out; omega); intro v140 w11 ho hb hg hat; rw [← Ny139.out] at ho; have n0_ := zaa.mk (Kd.V_afterv (ok := (fun k_ => (P0_3_ k_ ∨ w.heap.size ≤ k_) ∧ k_ ≠ gb133)) (by (with_reducible repeat (first | apply Kd.V_alloc | apply Kd.V_drewN | apply Kd.V_drew)); exact Kd.V_mono HO_3.out (fun _ hk => ⟨⟨hk.1, hk.2.2⟩, hk.2.1⟩)) hg hat); have n1_ := zaa.mk (Kd.V_afterv (ok := (fun k_ => (P0_3_ k_ ∨ w.heap.size ≤ k_) ∧ k_ ≠ gb133)) (by (with_reducible repeat (first | apply Kd.V_alloc | apply Kd.V_drewN | apply Kd.V_drew)); exact Kd.V_mono HO_134003.out (fun _ hk => ⟨⟨hk.1, hk.2.2⟩, hk.2.1⟩)) hg hat); have n2_ := zaa.mk (blk_grown (g := gb133) (o := .cells #[.int .u8 a0_0, .int .u8 a0_1, .int .i64 a0_2, .slice A0_3 l0_3.length c0_3] 27 (0, 0)) (by (with_reducible repeat (first | refine zaG ?_ _ | refine zaP ?_ | refine zaH ?_ _)); exact BK133.out) hg (Kd.N_away HO_4.out (fun _ hk => hk.2))); have n3_ := zaa.mk (Kd.V_afterv (ok := (fun k_ => (P0_3_ k_ ∨ w.heap.size ≤ k_) ∧ k_ ≠ gb133)) (by (with_reducible repeat (first | apply Kd.V_alloc | apply Kd.V_drewN | apply Kd.V_drew)); exact Kd.V_mono HL137_3.out (fun _ hk => ⟨⟨hk.1, hk.2.2⟩, hk.2.1⟩)) hg hat); have n4_ := zaa.mk (Kd.V_afterv (ok := (fun k_ => (P0_3_ k_ ∨ w.heap.size ≤ k_) ∧ k_ ≠ gb133)) (by (with_reducible repeat (first | apply Kd.V_alloc | apply Kd.V_drewN | apply Kd.V_drew)); exact Kd.V_mono HL138_3.out (fun _ hk => ⟨⟨hk.1, hk.2.2⟩, hk.2.1⟩)) hg hat); have n5_ := zaa.mk (hb); have n6_ := zaa.mk (ho); clear HO_3; clear HO_134003; clear BK133; clear HL137_3; clear HL138_3; clear HB; clear HO_4; have HO_3 := n0_; have HO_134003 := n1_; have BK133 := n2_; have HL137_3 := n3_; have HL138_3 := n4_; have HB := n5_; have HO141 := n6_; clear n0_ n1_ n2_ n3_ n4_ n5_ n6_; clear ho hb hg hat))
       go_roundg k1
       case measure => have := HK1.out; omega
       case rel => exact ⟨(y139), (wrap64 (x5_1 + 1)), (by first | rfl | (simp; done) | (simp [*]; done)), H', ⟨by have := HK1.out; omega⟩, ⟨by (with_reducible repeat (first | apply Kd.V_alloc | apply Kd.V_drewN | apply Kd.V_drew)); exact Kd.V_mono HO_3.out (fun _ hk => ⟨hk.1.1, ⟨hk.2, hk.1.2⟩⟩)⟩, ⟨by (with_reducible repeat (first | apply Kd.N_alloc | apply Kd.N_drewN | apply Kd.N_drew)); exact HO141.out⟩, ⟨by (with_reducible repeat (first | apply Kd.V_alloc | apply Kd.V_drewN | apply Kd.V_drew)); exact Kd.V_mono HO_134003.out (fun _ hk => ⟨hk.1.1, ⟨hk.2, hk.1.2⟩⟩)⟩, ⟨by (with_reducible repeat (first | refine zaG ?_ _ | refine zaP ?_ | refine zaH ?_ _)); exact BK133.out⟩, ⟨by repeat (first | (with_reducible first | exact HB.out | apply zad | apply zac | apply zaf | refine zaJ ?_ GE133.out) | exact HB.out)⟩⟩
      ·rw [if_neg c9] at H
       exact absurd H (by simp)
     ·rw [if_neg c8] at H
      have c8b0 : decide (((zbq t134 x5_1).f0.f0) ≤ 50) = false := decide_eq_false c8; clear c8; have H' := zaa.mk H; clear H; obtain ⟨Ao12, co12, eo12⟩ := Kd.V_slice HO_3.out; subst eo12; have p137 : 0 ≤ (x5_1 : Int) := of_decide_eq_true (by assumption)
      have q137 : x5_1 < (t134.length : Int) := of_decide_eq_true (by assumption)
      obtain ⟨ad137, A137_3, c137_3, e137, hx137_0, hx137_1, hx137_2, hx137_3, hx137_4, hx137_5, hx137_6, hl137_3, hi137_3⟩ := at_T125 (Kd.V_reads' HO_3.out).2.2 x5_1 p137 q137; cases e137; obtain ⟨ce137, hce137, hMe137, hcc137⟩ := Kd.V_get HO_3.out z125 x5_1 p137 (by first | exact q137 | exact of_decide_eq_true (by assumption) | (have e_ := (Kd.V_reads' HO_3.out).1; omega))
      obtain ⟨ua137_3, uc137_3, rfl, ul137_3, ge137_3⟩ := k125_openF hMe137; have hv137_3 := hcc137 3 _ rfl; rw [zbp _ _ 3 (by omega)] at hv137_3
      replace hv137_3 := Option.some.inj (hv137_3.symm.trans hx137_3); injection hv137_3 with hva_ hvn_ hvc_
      rw [hva_] at ge137_3; rw [hvc_] at ul137_3; have HL137_3 := zaa.mk (show Kd.V k27 27 _ w.heap.size _ _ ((zbq t134 x5_1).f0.f3) from Kd.V_mk ul137_3 ge137_3)
      clear hva_ hvn_ hvc_ ge137_3 ul137_3; clear hcc137 hce137; have HR137_3 := zaa.mk hi137_3; have HC137_3 := zaa.mk hl137_3; clear hi137_3 hl137_3; replace p137 := eq_true p137; replace q137 := eq_true q137; go_wp2
      go_roundg k1
      case measure => have := HK1.out; omega
      case rel => exact ⟨(x4_1), (wrap64 (x5_1 + 1)), (by first | rfl | (simp; done) | (simp [*]; done)), H', ⟨by have := HK1.out; omega⟩, ⟨by (with_reducible repeat (first | apply Kd.V_alloc | apply Kd.V_drewN | apply Kd.V_drew)); exact HO_3.out⟩, ⟨by (with_reducible repeat (first | apply Kd.N_alloc | apply Kd.N_drewN | apply Kd.N_drew)); exact HO_4.out⟩, ⟨by (with_reducible repeat (first | apply Kd.V_alloc | apply Kd.V_drewN | apply Kd.V_drew)); exact HO_134003.out⟩, ⟨by (with_reducible repeat (first | refine zaG ?_ _ | refine zaP ?_ | refine zaH ?_ _)); exact BK133.out⟩, ⟨by repeat (first | (with_reducible first | exact HB.out | apply zad | apply zac | apply zaf | refine zaJ ?_ GE133.out) | exact HB.out)⟩⟩
    ·rw [if_neg c7] at H
     exact absurd H (by simp)
   ·rw [if_neg c6] at H
    have c6b0 : decide (x5_1 < (t134.length : Int)) = false := decide_eq_false c6; clear c6; obtain rfl := Option.some.inj H; obtain ⟨Ao13, co13, eo13⟩ := Kd.V_slice HO_3.out; subst eo13; go_wp2
    go_ret
    exact ⟨_, by first | rfl | (simp [*, zay, zax] <;> rfl), by (with_reducible repeat (first | apply Kd.N_alloc | apply Kd.N_drewN | apply Kd.N_drew)); exact Kd.N_mono HO_4.out (fun _ hk => hk.1), by repeat (first | (with_reducible first | exact HB.out | apply zad | apply zac | apply zaf | refine zaJ ?_ GE133.out) | exact HB.out)⟩
end
theorem wpList_append_run {P : Program} {w w' : World} {ops : Array Oper} {rest : List Oper} {o : Oper} {a : Act} {Q : Exit → Act → World → Prop} {v' : Value}
  (hg : o.guard = none) (s x : Operand) (t : TypeId) (hop : o.op = Op.call { callee := Callee.builtin Builtin.append, args := #[s, x], argTypes := #[t, t] })
  (hrun : (Builtin.append_ #[t, t] o.type #[a.eval s, a.eval x]).run P w = .ok v' w') (hK : wpList P ops Q rest (a.put o.dst v') w') : wpList P ops Q (o :: rest) a w := by
 refine wpList_plain hg fun K hK' => ?_
 unfold Oper.wp execOp
 simp only [hop, resolve, invoke, builtin, Sem.run_bind, Sem.run_pure, Result.andThen_ok, List.map_toArray, List.map_cons, List.map_nil, hrun]; exact hK' _ _ hK
theorem zbU (W : World) (o : Obj) : (W.alloc o).heap.size = W.heap.size + 1 := by simp only [World.alloc, Array.size_push]
theorem alloc_at (W : World) (o : Obj) : (W.alloc o).heap[W.heap.size]? = some o := by simp only [World.alloc, Array.getElem?_push_size]
theorem alloc_old (W : World) (o : Obj) {i : Nat} (h : i < W.heap.size) : (W.alloc o).heap[i]? = W.heap[i]? := (Below.alloc (Below.refl _ _) (Nat.le_refl _) o).block i h
theorem alloc3 {W X : World} {o1 o2 o3 : Obj} (h : X = ((W.alloc o1).alloc o2).alloc o3) : X.heap.size = W.heap.size + 3 ∧ Below W.heap.size W X ∧ X.heap[W.heap.size]? = some o1 ∧ X.heap[W.heap.size + 1]? = some o2 ∧ X.heap[W.heap.size + 1 + 1]? = some o3 := by
 subst h; have s1 := zbU W o1; have s2 := zbU (W.alloc o1) o2; have s3 := zbU ((W.alloc o1).alloc o2) o3; refine ⟨by omega, ((Below.alloc (Below.refl _ _) (Nat.le_refl _) _).alloc (by omega) _).alloc (by omega) _, ?_, ?_, ?_⟩
 ·rw [alloc_old _ _ (by omega), alloc_old _ _ (by omega), alloc_at]
 ·rw [alloc_old _ _ (by omega), ← s1, alloc_at]
 ·rw [← s1, ← s2, alloc_at]
theorem infoNode : (Try.prog.info? 27).map (fun i => (i.zero, i.size, i.bytes)) = some (some (.agg #[.int .u8 0, .int .u8 0, .int .i64 0, .slice none 0 0]), 4, 40) := by kernel_rfl
set_option maxHeartbeats 8000000 in
set_option maxRecDepth 100000 in
theorem add16_calls (base : Nat) (ok : Nat → Prop) (k wt wd : Int) (v : Value) (l : List S27) (k' wt' wd' : Int) (v' : Value) (l' : List S27) (W : World) (hN : Kd.N k27 27 W base ok v l) (hbase : base ≤ W.heap.size) (hfresh : ∀ q, W.heap.size ≤ q → ok q)
  (hV : Kd.N k27 27 W base (fun q => ok q ∧ some q ≠ v.ownBlock) v' l') (hw : -9223372036854775808 ≤ wd ∧ wd ≤ 9223372036854775807) (hw' : -9223372036854775808 ≤ wd' ∧ wd' ≤ 9223372036854775807) (hl : l.length ≤ 1000000) :
  Calls Try.prog 48 #[.agg #[.int .u8 k, .int .u8 wt, .int .i64 wd, v], .agg #[.int .u8 k', .int .u8 wt', .int .i64 wd', v']] W fun e w' => ∃ u, e = .returned (.agg #[.int .u8 k, .int .u8 wt, .int .i64 (wrap64 (wd + wd')), u]) ∧ Kd.N k27 27 w' base ok u (l ++ [⟨k', wt', wd', l'⟩]) ∧ W.grownBy w' v.ownBlock ∧ (u.ownBlock = v.ownBlock ∨ ∃ b, u.ownBlock = some b ∧ W.heap.size ≤ b) := by
 obtain ⟨A, c, rfl, hlc, hC⟩ := Kd.zaQ hN; obtain ⟨A', c', rfl, hlc', hC'⟩ := Kd.zaQ hV; have HN := zaa.mk hN; have HV := zaa.mk hV; clear hN hV hC hC'; have hu := Try.underlying27; go_enter Try.func48, Try.ntmps48
 obtain ⟨X, hX⟩ : ∃ X, X = ((W.alloc (.cells #[.int .u8 k, .int .u8 wt, .int .i64 wd, .slice A l.length c] 27)).alloc (.cells #[.int .u8 k', .int .u8 wt', .int .i64 wd', .slice A' l'.length c'] 27)).alloc (.cells #[.int .u8 0, .int .u8 0, .int .i64 0, .slice none 0 0] 27) := ⟨_, rfl⟩; obtain ⟨hs3, hb3, k0, k1, k2⟩ := alloc3 hX; have K0 := zaa.mk k0; have K1 := zaa.mk k1; have K2 := zaa.mk k2; have HS3 := zaa.mk hs3; have HB3 := zaa.mk hb3; have c00 := zae k0 0; have c01 := zae k0 1; have c02 := zae k0 2; have c03 := zae k0 3; have c10 := zae k1 0; have c11 := zae k1 1; have c12 := zae k1 2; have c13 := zae k1 3; simp at c00 c01 c02 c03 c10 c11 c12 c13; have bl0 := zaM k0; have bl1 := zaM k1; have bl2 := zaM k2; have hgs : (Value.slice A l.length c).ownBlock ≠ some W.heap.size ∧ (Value.slice A l.length c).ownBlock ≠ some (W.heap.size + 1) ∧ (Value.slice A l.length c).ownBlock ≠ some (W.heap.size + 1 + 1) := by
  have := Kd.N_lt HN.out; refine ⟨fun h => ?_, fun h => ?_, fun h => ?_⟩ <;> (have h2 := this _ h; omega)
 have hbY : Below X.heap.size X (X.alloc (.cells #[.int .u8 k', .int .u8 wt', .int .i64 wd', .slice A' l'.length c'] 27)) := Below.alloc (Below.refl _ _) (Nat.le_refl _) _; obtain ⟨ok1, hok1⟩ : ∃ ok1 : Nat → Prop, ok1 = fun q => ok q ∧ (q < W.heap.size ∨ X.heap.size ≤ q) := ⟨_, rfl⟩
 obtain ⟨g, cap, w1, hrun, hgr, hat, hbg, -, hN1⟩ := append_elemN k27 27 25 (X := X) (ok := ok1) (okp := fun q => (ok q ∧ some q ≠ (Value.slice A l.length c).ownBlock) ∧ q < W.heap.size) (Kd.N_below (Kd.N_mono (Kd.N_bound HN.out) (fun q hq => by rw [hok1]; exact ⟨hq.1, .inl hq.2⟩)) hb3) (by omega) (fun q hq => by rw [hok1]; exact ⟨hfresh q (by omega), .inr hq⟩) Try.underlying25 infoNode rfl (by show 0 < 4; omega) (by omega) (by omega) hbY
  ⟨k', wt', wd', l'⟩ [.int .u8 k', .int .u8 wt', .int .i64 wd', .slice A' l'.length c'] (alloc_at _ _)
  (k27_mkF X _ ⟨k', wt', wd', l'⟩ (A3 := A') (c3 := c') hlc' (Kd.F_below (Kd.N_F (Kd.N_bound HV.out)) hb3)) (fun q hq => ⟨by rw [hok1]; exact ⟨hq.1.1, .inl hq.2⟩, hq.1.2⟩)
 have hn1 : ∀ i, W.heap.size ≤ i → i ≤ W.heap.size + 1 + 1 → w1.heap[i]? = X.heap[i]? := fun i hi hi2 => hgr.block i (by omega) (fun h => by
  rcases (show i = W.heap.size ∨ i = W.heap.size + 1 ∨ i = W.heap.size + 1 + 1 by omega) with h' | h' | h' <;> subst h'
  ·exact hgs.1 h.symm
  ·exact hgs.2.1 h.symm
  ·exact hgs.2.2 h.symm)
 have L0 := zaa.mk ((hn1 _ (Nat.le_refl _) (by omega)).trans k0)
 have L1 := zaa.mk ((hn1 _ (by omega) (by omega)).trans k1)
 have L2 := zaa.mk ((hn1 _ (by omega) (by omega)).trans k2)
 have HGR := zaa.mk hgr; have HAT := zaa.mk hat; have HN1 := zaa.mk hN1; have HOK1 := zaa.mk hok1; have d00 := zae L0.out 0; have d01 := zae L0.out 1; have d02 := zae L0.out 2; have d03 := zae L0.out 3; have d12 := zae L1.out 2; have f02 := zab L0.out 2; have f03 := zab L0.out 3; have d20 := zae L2.out 0; have d21 := zae L2.out 1; have d22 := zae L2.out 2; have d23 := zae L2.out 3; have f20 := zab L2.out 0; have f21 := zab L2.out 1; have f22 := zab L2.out 2; have f23 := zab L2.out 3; simp at d00 d01 d02 d03 d12 d20 d21 d22 d23; clear hb3 hs3 k0 k1 k2 hgs hbY hgr hN1 hn1 hat hok1; go_upto_region 1 with (fail)
 rw [← hX]; clear hX; go_wp2_with (at_builtin; refine wpList_append_run rfl _ _ _ rfl hrun ?_)
 have hok2 : ∀ q, ok1 q → q ≠ W.heap.size ∧ q ≠ W.heap.size + 1 + 1 := fun q hq => by
  rw [HOK1.out] at hq; have := HS3.out; have := hq.2; omega
 have hz := Try.underlying27; refine bodyPost_ret (v := .agg #[.int .u8 k, .int .u8 wt, .int .i64 (wrap64 (wd + wd')), .slice (some ⟨g, 0, none⟩) (l.length + 1) cap]) (by simp [results, show Try.f48.results = #[.cell 4 27] from rfl, go_sem, d20, d21, d22, d23]) rfl ⟨_, rfl, ?_, ?_, HAT.out.imp (fun h => h.symm) (fun h => ⟨g, by simp [Value.ownBlock], by have := HS3.out; omega⟩)⟩
 ·refine Kd.N_mono (ok := ok1) ?_ (fun q hq => by rw [HOK1.out] at hq; exact hq.1)
  exact Kd.N_far (Kd.N_far (Kd.N_far (Kd.N_far (Kd.N_far (Kd.N_far HN1.out (fun q hq => (hok2 q hq).1) _) (fun q hq => (hok2 q hq).1) _) (fun q hq => (hok2 q hq).2) _) (fun q hq => (hok2 q hq).2) _) (fun q hq => (hok2 q hq).2) _) (fun q hq => (hok2 q hq).2) _
 ·refine ⟨by simp [World.setCell, HGR.out.os, HB3.out.os], by simp [World.setCell, HGR.out.tape, HB3.out.tape], by simp [World.setCell, HGR.out.output, HB3.out.output], ?_, fun q hq hne => ?_⟩
  ·have h1 := HGR.out.size
   have h2 := HB3.out.size; simp only [World.size_setCell]; omega
  ·have h2 := HB3.out.size
   rw [Below.heap_setCell _ _ _ _ (by simp only; omega), Below.heap_setCell _ _ _ _ (by simp only; omega), Below.heap_setCell _ _ _ _ (by simp only; omega), Below.heap_setCell _ _ _ _ (by simp only; omega), Below.heap_setCell _ _ _ _ (by simp only; omega), Below.heap_setCell _ _ _ _ (by simp only; omega)]
   exact (HGR.out.block q (by omega) hne).trans (HB3.out.block q hq)
structure PS (W : World) (g : Nat) (A : Option Addr) (c : Nat) (l : List S39) (a : Nat) : Prop where
 blk : ∃ sk pt : Int, W.heap[g]? = some (.cells #[.slice A l.length c, .int .i64 (a : Int), .slice none 0 0, .int .i64 sk, .int .i64 pt] 70 (0, 0))
 cap : l.length ≤ c
 len : l.length ≤ 3000
 toks : Kd.F k39 W (fun q => q < g) A l.length l
 le : a ≤ l.length
structure Fr (g : Nat) (r : Option Nat) (W W' : World) : Prop where
 os : W'.os = W.os
 tape : W'.tape = W.tape
 output : W'.output = W.output
 size : W.heap.size ≤ W'.heap.size
 block : ∀ q, q < W.heap.size → q ≠ g → some q ≠ r → W'.heap[q]? = W.heap[q]?
theorem Fr.of_below {g : Nat} {r : Option Nat} {W W' : World} (h : Below W.heap.size W W') : Fr g r W W' := ⟨h.os, h.tape, h.output, h.size, fun q hq _ _ => h.block q hq⟩
theorem Fr.za1 {g : Nat} {r : Option Nat} {W W' : World} (h : W.grownBy W' r) : Fr g r W W' := ⟨h.os, h.tape, h.output, h.size, fun q hq _ hr => h.block q hq hr⟩
theorem Fr.refl (g : Nat) (r : Option Nat) (W : World) : Fr g r W W := ⟨rfl, rfl, rfl, Nat.le_refl _, fun _ _ _ _ => rfl⟩
theorem Fr.trans {g : Nat} {r r' : Option Nat} {W W1 W2 : World} (h : Fr g r W W1) (k : Fr g r' W1 W2) (hr : ∀ q, r' = some q → r = some q ∨ W.heap.size ≤ q) : Fr g r W W2 :=
 ⟨k.os.trans h.os, k.tape.trans h.tape, k.output.trans h.output, Nat.le_trans h.size k.size, fun q hq h1 h2 => (k.block q (Nat.lt_of_lt_of_le hq h.size) h1 (fun e => by rcases hr q e.symm with h3 | h3; exact h2 h3.symm; omega)).trans (h.block q hq h1 h2)⟩
theorem PS.keep {W W' : World} {g : Nat} {A : Option Addr} {c : Nat} {l : List S39} {a : Nat} (h : PS W g A c l a) (hk : ∀ q, q ≤ g → W'.heap[q]? = W.heap[q]?) : PS W' g A c l a := by
 obtain ⟨sk, pt, hb⟩ := h.blk; exact ⟨⟨sk, pt, (hk g (Nat.le_refl _)).trans hb⟩, h.cap, h.len, Kd.F_step h.toks (fun q hq _ => hk q (Nat.le_of_lt hq)), h.le⟩
theorem PS.lt {W : World} {g : Nat} {A : Option Addr} {c : Nat} {l : List S39} {a : Nat} (h : PS W g A c l a) : g < W.heap.size := by
 obtain ⟨sk, pt, hb⟩ := h.blk; exact zaM hb
theorem PS.below {W W' : World} {g : Nat} {A : Option Addr} {c : Nat} {l : List S39} {a : Nat} (h : PS W g A c l a) (hb : Below W.heap.size W W') : PS W' g A c l a :=
 h.keep (fun q hq => hb.block q (by have := h.lt; omega))
set_option maxHeartbeats 8000000 in
set_option maxRecDepth 100000 in
theorem hand_calls (g : Nat) (A : Option Addr) (c : Nat) (l : List S39) (a : Nat) (W : World) (h : PS W g A c l a) :
  Calls Try.prog 45 #[.pointer (some ⟨g, 0, none⟩)] W fun e w' => e = .returned (.int .i64 (hd l a : Int)) ∧ Below W.heap.size W w' := by
 have hP := zaa.mk h; obtain ⟨⟨sk, pt, hb⟩, hc, hl, hF, h1⟩ := h; have hdrop : Kd.C k39 W (if c = a then A else Option.map (fun x => x.add (a * 3)) A) (l.drop a).length (l.drop a) := Kd.C_drop (m := a) (Kd.F_now hF) h1 hc
 obtain ⟨AD, hAD⟩ : ∃ AD, AD = (if c = a then A else Option.map (fun x => x.add (a * 3)) A) := ⟨_, rfl⟩
 rw [← hAD] at hdrop; have HAD := zaa.mk hAD; clear hAD; obtain ⟨K, hK⟩ := next_ev (l.drop a) (by rw [List.length_drop]; omega)
 have HNX := zaa.mk (hK K (Nat.le_refl _)); have HDR := zaa.mk hdrop; have HHD := zaa.mk (show wrap64 ((nx (l.drop a) : Int) + (a : Int)) = (hd l a : Int) by
  have := hd_le h1; have e : hd l a = a + nx (l.drop a) := rfl; rw [zbf (by omega) (by omega)]
  omega)
 have HB := zaa.mk hb; clear hK hdrop hF hb; go_enter Try.func45, Try.ntmps45
 go_wp2_with fail
 have HS0 := zaa.mk (show W.drew.cell? ⟨g, 0, none⟩ = some (.slice A l.length c) ∧ W.drew.cell? ⟨g, 1, none⟩ = some (.int .i64 a) from by
  have c0 := zae HB.out 0; have c1 := zae HB.out 1; simp at c0 c1; exact ⟨c0, c1⟩)
 refine wp_region_noPanic (zbx [0, 1, 2, 3, 4, 5, 6, 7, 8, 9, 10, 11, 12, 13, 14, 15] (fun W' => W'.cell? ⟨g, 0, none⟩ = some (.slice A l.length c) ∧ W'.cell? ⟨g, 1, none⟩ = some (.int .i64 a)) (by kernel_rfl) ?_)
 have i0 : ¬ (a : Int) < 0 := by omega
 have i1 : a ≤ c := by omega
 refine zar 0 (v := ?_) HS0.out ?_ ?_
 rotate_left
 ·(intro W' hW'; obtain ⟨s0, s1⟩ := hW'; go_simp; try rfl)
 simp only [Act.put, zav]; refine zar 1 (v := ?_) HS0.out ?_ ?_
 rotate_left
 ·(intro W' hW'; obtain ⟨s0, s1⟩ := hW'; go_simp; try rfl)
 simp only [Act.put, zav]; refine zar 2 (v := ?_) HS0.out ?_ ?_
 rotate_left
 ·(intro W' hW'; obtain ⟨s0, s1⟩ := hW'; go_simp; try rfl)
 simp only [Act.put, zav]; refine zar 3 (v := ?_) HS0.out ?_ ?_
 rotate_left
 ·(intro W' hW'; obtain ⟨s0, s1⟩ := hW'; go_simp; try rfl)
 simp only [Act.put, zav]; refine zar 4 (v := ?_) HS0.out ?_ ?_
 rotate_left
 ·(intro W' hW'; obtain ⟨s0, s1⟩ := hW'; go_simp; try rfl)
 simp only [Act.put, zav]; refine zar 5 (v := ?_) HS0.out ?_ ?_
 rotate_left
 ·(intro W' hW'; obtain ⟨s0, s1⟩ := hW'; go_simp; try rfl)
 simp only [Act.put, zav]; refine zar 6 (v := ?_) HS0.out ?_ ?_
 rotate_left
 ·(intro W' hW'; obtain ⟨s0, s1⟩ := hW'; go_simp; try rfl)
 simp only [Act.put, zav]; refine zar 7 (v := ?_) HS0.out ?_ ?_
 rotate_left
 ·(intro W' hW'; obtain ⟨s0, s1⟩ := hW'; go_simp; try rfl)
 simp only [Act.put, zav]; refine zar 8 (v := ?_) HS0.out ?_ ?_
 rotate_left
 ·(intro W' hW'; obtain ⟨s0, s1⟩ := hW'; go_simp; try rfl)
 simp only [Act.put, zav]; refine zar 10 (v := ?_) HS0.out ?_ ?_
 rotate_left
 ·(intro W' hW'; obtain ⟨s0, s1⟩ := hW'; go_simp; try rfl)
 simp only [Act.put, zav]; refine zar 11 (v := ?_) HS0.out ?_ ?_
 rotate_left
 ·(intro W' hW'; obtain ⟨s0, s1⟩ := hW'; go_simp; try rfl)
 simp only [Act.put, zav]; refine zar 12 (v := ?_) HS0.out ?_ ?_
 rotate_left
 ·(intro W' hW'; obtain ⟨s0, s1⟩ := hW'; go_simp; try rfl)
 simp only [Act.put, zav]; refine zar 13 (v := ?_) HS0.out ?_ ?_
 rotate_left
 ·(intro W' hW'; obtain ⟨s0, s1⟩ := hW'; go_simp; try rfl)
 simp only [Act.put, zav]; refine zaX (i := 9) rfl (by kernel_rfl) (fun K' hK' => ?_)
 go_simp
 rw [← HAD.out]; have hnx := zaz.calls K AD (c - a) (l.drop a) 0 _ W.drew (Kd.za4 HDR.out (Below.refl _ _).drew) (by rw [List.length_drop]; omega) HNX.out
 rw [List.length_drop] at hnx; refine hnx.mono ?_
 rintro e w2 ⟨rfl, hd2⟩
 have HB2 := zaa.mk (show Below W.heap.size W w2 from (Below.refl _ _).drew.trans hd2.below)
 have HS1 := zaa.mk (show w2.cell? ⟨g, 0, none⟩ = some (.slice A l.length c) ∧ w2.cell? ⟨g, 1, none⟩ = some (.int .i64 a) from by
  have hb := zaU HB.out HB2.out; have c0 := zae hb 0; have c1 := zae hb 1; simp at c0 c1; exact ⟨c0, c1⟩)
 clear hd2 hnx; refine hK'.out _ _ (fun _ => HS1.out) (fun _ => ?_)
 clear hK' K'; try simp only [Act.put, zav]
 refine zar 14 (v := ?_) HS1.out ?_ ?_
 rotate_left
 ·(intro W' hW'; obtain ⟨s0, s1⟩ := hW'; go_simp; try rfl)
 simp only [Act.put, zav]; refine zar 15 (v := ?_) HS1.out ?_ ?_
 rotate_left
 ·(intro W' hW'; obtain ⟨s0, s1⟩ := hW'; go_simp; try rfl)
 simp only [Act.put, zav]; refine zbd (by kernel_rfl) (NoPanic.normal ?_) _
 go_wp2
 go_ret
 exact ⟨congrArg (fun z => Ending.returned (Value.int .i64 z)) ((i64_w _).trans HHD.out), HB2.out⟩
set_option maxHeartbeats 8000000 in
set_option maxRecDepth 100000 in
theorem za9 (g : Nat) (A : Option Addr) (c : Nat) (l : List S39) (a : Nat) (W : World) (h : PS W g A c l a) :
  Calls Try.prog 34 #[.pointer (some ⟨g, 0, none⟩)] W fun e w' => e = .returned (.int .u8 (cu l a)) ∧ Below W.heap.size W w' := by
 have HP := zaa.mk h; have HH := zaa.mk (hand_calls g A c l a W h); have hle := hd_le h.le; have hlen := h.len; clear h; obtain ⟨hh, hhd⟩ : ∃ hh, hh = hd l a := ⟨_, rfl⟩; have HE := zaa.mk (show cu l a = if hh < l.length then (zbc l (hh : Int)).f0 else 0 by rw [hhd]; rfl)
 rw [← hhd] at HH hle; clear hhd; go_enter Try.func34, Try.ntmps34
 by_cases hlt : hh < l.length
 ·have hne : ¬ hh = l.length := by omega
  go_wp2_with (go_at_call 45; refine HH.out.mono ?_; rintro e w2 ⟨rfl, hb2⟩; have HB2 := zaa.mk hb2; have hP2 := HP.out.below hb2; obtain ⟨sk, pt, hblk⟩ := hP2.blk; have c0 := zae hblk 0; obtain ⟨ad, e1, g0, g1, g2⟩ := at_T39 (Kd.F_now hP2.toks) (hh : Int) (by omega) (by omega); subst e1; rw [Int.toNat_natCast] at g0 g1 g2; simp at c0; clear hP2 hblk hb2)
  go_ret
  exact ⟨by rw [HE.out, if_pos hlt]; rfl, HB2.out⟩
 ·have hee : hh = l.length := by omega
  subst hee; go_wp2_with (go_at_call 45; refine HH.out.mono ?_; rintro e w2 ⟨rfl, hb2⟩; have HB2 := zaa.mk hb2; have hP2 := HP.out.below hb2; obtain ⟨sk, pt, hblk⟩ := hP2.blk; have c0 := zae hblk 0; simp at c0; clear hP2 hblk hb2)
  go_ret
  exact ⟨by rw [HE.out, if_neg hlt]; rfl, HB2.out⟩
mutual
theorem tsize_pos' : ∀ t : S27, 1 ≤ tsize t
 | ⟨k, w, wd, l⟩ => by simp only [tsize]; omega
theorem lsize_len : ∀ l : List S27, l.length ≤ lsize l
 | [] => Nat.zero_le _
 | t :: r => by
  have := lsize_len r; have := tsize_pos' t; simp only [List.length_cons, lsize]; omega
end
theorem lsize_snoc : ∀ (l : List S27) (t : S27), lsize (l ++ [t]) = lsize l + tsize t
 | [], t => by simp [lsize]
 | x :: r, t => by simp only [List.cons_append, lsize, lsize_snoc r t]; omega
theorem byteL_snoc : ∀ (l : List S27) (t : S27), byteL l → byteT t → byteL (l ++ [t])
 | [], t, _, h => by simp only [List.nil_append, byteL]; exact ⟨h, trivial⟩
 | x :: r, t, hl, h => by
  simp only [List.cons_append, byteL] at hl ⊢; exact ⟨hl.1, byteL_snoc r t hl.2 h⟩
structure NV (b : Nat) (ok : Nat → Prop) (W : World) (k w wd : Int) (v : Value) (l : List S27) (N : Nat) : Prop where
 row : Kd.N k27 27 W b ok v l
 kb : 0 ≤ k ∧ k ≤ 255
 wb : 0 ≤ w ∧ w ≤ 255
 lb : byteL l
 wd : -9223372036854775808 ≤ wd ∧ wd ≤ 9223372036854775807
 size : lsize l + 1 ≤ N
theorem NV.leaf {b : Nat} {ok : Nat → Prop} {W : World} {k w wd : Int} {N : Nat} (hk : 0 ≤ k ∧ k ≤ 255) (hw : 0 ≤ w ∧ w ≤ 255) (hwd : -9223372036854775808 ≤ wd ∧ wd ≤ 9223372036854775807) (hN : 1 ≤ N) : NV b ok W k w wd (.slice none 0 0) [] N :=
 ⟨Kd.N_nil _ _ _ _ _, hk, hw, by simp only [byteL], hwd, by simpa [lsize] using hN⟩
theorem NV.step {b : Nat} {ok : Nat → Prop} {W W' : World} {k w wd : Int} {v : Value} {l : List S27} {N : Nat} (h : NV b ok W k w wd v l N) (hm : ∀ q, ok q → q < W.heap.size → W'.heap[q]? = W.heap[q]?) : NV b ok W' k w wd v l N :=
 ⟨Kd.N_step h.row hm, h.kb, h.wb, h.lb, h.wd, h.size⟩
theorem NV.mono {b : Nat} {ok ok' : Nat → Prop} {W : World} {k w wd : Int} {v : Value} {l : List S27} {N : Nat} (h : NV b ok W k w wd v l N) (hm : ∀ q, ok q → ok' q) : NV b ok' W k w wd v l N :=
 ⟨Kd.N_mono h.row hm, h.kb, h.wb, h.lb, h.wd, h.size⟩
theorem NV.bound {b : Nat} {ok : Nat → Prop} {W : World} {k w wd : Int} {v : Value} {l : List S27} {N : Nat} (h : NV b ok W k w wd v l N) : NV b (fun q => ok q ∧ q < W.heap.size) W k w wd v l N :=
 ⟨Kd.N_bound h.row, h.kb, h.wb, h.lb, h.wd, h.size⟩
theorem NV.more {b : Nat} {ok : Nat → Prop} {W : World} {k w wd : Int} {v : Value} {l : List S27} {N N' : Nat} (h : NV b ok W k w wd v l N) (hN : N ≤ N') : NV b ok W k w wd v l N' :=
 ⟨h.row, h.kb, h.wb, h.lb, h.wd, Nat.le_trans h.size hN⟩
def Near (W : World) (r : Option Nat) (u : Value) : Prop := u.ownBlock = r ∨ ∃ q, u.ownBlock = some q ∧ W.heap.size ≤ q
theorem zb5 (b : Nat) (ok : Nat → Prop) (W : World) (k w wd : Int) (v : Value) (l : List S27) (N : Nat) (k' w' wd' : Int) (v' : Value) (l' : List S27) (N' : Nat) (hN : NV b ok W k w wd v l N) (hb : b ≤ W.heap.size) (hf : ∀ q, W.heap.size ≤ q → ok q)
  (hV : NV b (fun q => ok q ∧ some q ≠ v.ownBlock) W k' w' wd' v' l' N') (hs : N + N' ≤ 1000000) :
  Calls Try.prog 48 #[.agg #[.int .u8 k, .int .u8 w, .int .i64 wd, v], .agg #[.int .u8 k', .int .u8 w', .int .i64 wd', v']] W fun e W' => ∃ wd2 u l2, e = .returned (.agg #[.int .u8 k, .int .u8 w, .int .i64 wd2, u]) ∧ NV b ok W' k w wd2 u l2 (N + N') ∧ W.grownBy W' v.ownBlock ∧ Near W v.ownBlock u := by
 have hl := lsize_len l; refine (add16_calls b ok k w wd v l k' w' wd' v' l' W hN.row hb hf hV.row hN.wd hV.wd (by have := hN.size; omega)).mono ?_
 rintro e W' ⟨u, rfl, h1, h2, h3⟩
 refine ⟨_, u, _, rfl, ⟨h1, hN.kb, hN.wb, byteL_snoc _ _ hN.lb (by simp only [byteT]; exact ⟨hV.kb, hV.wb, hV.lb⟩), by unfold wrap64; omega, ?_⟩, h2, h3⟩
 rw [lsize_snoc]; have h4 := hN.size; have h5 := hV.size; simp only [tsize]; omega
def Ext (g : Nat) (A : Option Addr) (c : Nat) (lt : List S39) (b : Nat) (ok : Nat → Prop) (W : World) (k w : Int) (r : Option Nat) (a N : Nat) (e : Ending) (W' : World) : Prop :=
 ∃ (wd : Int) (u : Value) (l : List S27), e = .returned (.agg #[.int .u8 k, .int .u8 w, .int .i64 wd, u]) ∧ PS W' g A c lt a ∧ NV b ok W' k w wd u l N ∧ Fr g r W W' ∧ Near W r u
abbrev putN (X : World) (b : Nat) (k w wd : Int) (v : Value) : World := (((X.setCell ⟨b, 0, none⟩ (.int .u8 k)).setCell ⟨b, 1, none⟩ (.int .u8 w)).setCell ⟨b, 2, none⟩ (.int .i64 wd)).setCell ⟨b, 3, none⟩ v
abbrev nodeO (k w wd : Int) (v : Value) : Obj := .cells #[.int .u8 k, .int .u8 w, .int .i64 wd, v] 27
section
variable {X : World} {b : Nat} {k w wd : Int} {v : Value}
theorem zbH {q : Nat} (h : q ≠ b) : (putN X b k w wd v).heap[q]? = X.heap[q]? := by
 unfold putN
 rw [Below.heap_setCell _ _ _ _ h, Below.heap_setCell _ _ _ _ h, Below.heap_setCell _ _ _ _ h, Below.heap_setCell _ _ _ _ h]
theorem putN_size : (putN X b k w wd v).heap.size = X.heap.size := by simp [putN]
theorem zbe {z0 z1 z2 z3 : Value} (h : X.heap[b]? = some (.cells #[z0, z1, z2, z3] 27 (0, 0))) : (putN X b k w wd v).heap[b]? = some (nodeO k w wd v) := by
 have h1 := zbs h 0 (.int .u8 k); have h2 := zbs h1 1 (.int .u8 w); have h3 := zbs h2 2 (.int .i64 wd); have h4 := zbs h3 3 v
 simpa [putN] using h4
theorem putN_fr {g : Nat} {r : Option Nat} {W : World} (h : Fr g r W X) (hb : W.heap.size ≤ b) : Fr g r W (putN X b k w wd v) :=
 ⟨by simp [putN, World.setCell, h.os], by simp [putN, World.setCell, h.tape], by simp [putN, World.setCell, h.output], by rw [putN_size]; exact h.size, fun q hq h1 h2 => (zbH (by omega)).trans (h.block q hq h1 h2)⟩
end
theorem alloc2 {W X : World} {o1 o2 : Obj} (h : X = (W.alloc o1).alloc o2) : X.heap.size = W.heap.size + 2 ∧ Below W.heap.size W X ∧ X.heap[W.heap.size]? = some o1 ∧ X.heap[W.heap.size + 1]? = some o2 := by
 subst h; have s1 := zbU W o1; have s2 := zbU (W.alloc o1) o2; refine ⟨by omega, (Below.alloc (Below.refl _ _) (Nat.le_refl _) _).alloc (by omega) _, ?_, ?_⟩
 ·rw [alloc_old _ _ (by omega), alloc_at]
 ·rw [← s1, alloc_at]
def okm (ok : Nat → Prop) (W : World) (m : Nat) (q : Nat) : Prop := ok q ∧ (q < W.heap.size ∨ W.heap.size + m ≤ q)
theorem NV.enter {b : Nat} {ok : Nat → Prop} {W X : World} {k w wd : Int} {v : Value} {l : List S27} {N : Nat} (m : Nat) (h : NV b ok W k w wd v l N) (hb : Below W.heap.size W X) : NV b (okm ok W m) X k w wd v l N :=
 (h.bound.mono (ok' := okm ok W m) (fun q hq => ⟨hq.1, .inl hq.2⟩)).step (fun q hq hl => by
  rcases hq.2 with h1 | h1
  ·exact hb.block q h1
  ·exact hb.block q hl)
theorem Ext.done {g : Nat} {A : Option Addr} {c : Nat} {lt : List S39} {b : Nat} {ok : Nat → Prop} {W : World} {k w wd : Int} {r : Option Nat} {a N : Nat} {X : World} {u : Value} {l : List S27} {m rx : Nat} (hP : PS X g A c lt a) (hN : NV b (okm ok W m) X k w wd u l N) (hF : Fr g r W X) (hR : Near W r u) (hrx : W.heap.size ≤ rx) (hrm : rx < W.heap.size + m) (hgW : g < W.heap.size) :
  Ext g A c lt b ok W k w r a N (.returned (.agg #[.int .u8 k, .int .u8 w, .int .i64 wd, u])) (putN X rx k w wd u) :=
 ⟨wd, u, l, rfl, hP.keep (fun q hq => zbH (by omega)), (hN.step (fun q hq _ => zbH (by have := hq.2; omega))).mono (fun q hq => hq.1), putN_fr hF hrx, hR⟩
set_option maxHeartbeats 8000000 in
set_option maxRecDepth 100000 in
theorem zb3 (g : Nat) (A : Option Addr) (c : Nat) (lt : List S39) (a : Nat) (b : Nat) (ok : Nat → Prop) (W : World) (k w wd : Int) (v : Value) (l : List S27) (N : Nat) (kd : Int) (hkd : 0 ≤ kd ∧ kd ≤ 255) (hP : PS W g A c lt a) (hN : NV b ok W k w wd v l N) (hb : b ≤ W.heap.size) (hg : ∀ q, ok q → g < q) (hf : ∀ q, W.heap.size ≤ q → ok q) (hs : N + 1 ≤ 1000000) :
  Calls Try.prog 71 #[.agg #[.int .u8 k, .int .u8 w, .int .i64 wd, v], .int .u8 kd] W (Ext g A c lt b ok W k w v.ownBlock a (N + 1)) := by
 obtain ⟨AA, cc, rfl, hlc, hC⟩ := Kd.zaQ hN.row; have HN := zaa.mk hN; have HP := zaa.mk hP; have HF := zaa.mk hf; have HG := zaa.mk hg; clear hN hP hf hg hC; have hu := Try.underlying27; go_enter Try.func71, Try.ntmps71
 go_upto_region 1 with (fail)
 obtain ⟨X, hX⟩ : ∃ X, X = (W.alloc (nodeO k w wd (.slice AA l.length cc))).alloc (nodeO 0 0 0 (.slice none 0 0)) := ⟨_, rfl⟩; obtain ⟨hs2, hb2, k0, k1⟩ := alloc2 hX; have HS := zaa.mk hs2; have HB := zaa.mk hb2; have K0 := zaa.mk k0; have K1 := zaa.mk k1; have c0 := zae k0 0; have c1 := zae k0 1; have c2 := zae k0 2; have c3 := zae k0 3; simp at c0 c1 c2 c3; clear hs2 hb2 k0 k1; change Code.wp Try.prog _ _ _ ((W.alloc (nodeO k w wd (.slice AA l.length cc))).alloc (nodeO 0 0 0 (.slice none 0 0)))
 rw [← hX]; clear hX; have HN1 := zaa.mk (HN.out.enter 2 HB.out); have hva : ∀ q, (Value.slice AA l.length cc).ownBlock = some q → q < W.heap.size := fun q hq => Kd.N_lt HN.out.row q hq
 have HVA := zaa.mk hva; have HVB := zaa.mk (show ∀ q, (Value.slice AA l.length cc).ownBlock = some q → g < q from fun q hq => HG.out q (HN.out.row.1 q hq))
 clear hva; go_wp2_with (go_at_call 48; refine (zb5 b (okm ok W 2) _ k w wd _ l N 50 kd 0 (.slice none 0 0) [] 1 HN1.out (by have := HS.out; omega) (fun q hq => ⟨HF.out q (by have := HS.out; omega), .inr (by have := HS.out; omega)⟩) (NV.leaf (by omega) hkd (by omega) (Nat.le_refl _)) hs).mono ?_; rintro e w2 ⟨wd2, u, l2, rfl, h1, h2, h3⟩; obtain ⟨A2, c2', rfl, _, _⟩ := Kd.zaQ h1.row; have H1 := zaa.mk h1; have H2 := zaa.mk h2; have H3 := zaa.mk h3; have r0 := (h2.block (W.heap.size + 1) (by have := HS.out; omega) (fun e => by have := HVA.out _ e.symm; omega)).trans K1.out; have HR0 := zaa.mk r0; have f0 := zab r0 0; have f1 := zab r0 1; have f2 := zab r0 2; have f3 := zab r0 3; have d0 := zae r0 0; have d1 := zae r0 1; have d2 := zae r0 2; have d3 := zae r0 3; have dl := zaM r0; simp at d0 d1 d2 d3; clear h1 h2 h3 r0 c0 c1 c2 c3)
 have hgl := HP.out.lt; refine bodyPost_ret (zaR (r := .cell 4 27) rfl (.cell (W.heap.size + 1) 27 _ (0, 0) _ rfl (zbe HR0.out) Try.underlying27 rfl (by kernel_rfl) .nil)) rfl ?_
 exact Ext.done (m := 2) ((HP.out.below HB.out).keep (fun q hq => H2.out.block q (by have := HS.out; omega) (fun e => by have := HVB.out _ e.symm; omega))) H1.out (Fr.trans (Fr.of_below HB.out) (Fr.za1 H2.out) (fun q hq => .inl hq)) (by rcases H3.out with h | ⟨q, h, hq⟩; exact .inl h; exact .inr ⟨q, h, by have := HS.out; omega⟩) (by omega) (by omega) hgl
structure ST (g : Nat) (A : Option Addr) (c : Nat) (lt : List S39) (b : Nat) (ok : Nat → Prop) (W X0 : World) (m : Nat) (r : Option Nat) (bx : Nat) (X : World) (k w wd : Int) (v : Value) (l : List S27) (N a : Nat) : Prop where
 ps : PS X g A c lt a
 box : X.heap[bx]? = some (nodeO k w wd v)
 nv : NV b (okm ok W m) X k w wd v l N
 fr : Fr g r W X
 near : Near W r v
 sz : W.heap.size + m ≤ X.heap.size
 keep : ∀ q, W.heap.size ≤ q → q < W.heap.size + m → q ≠ bx → X.heap[q]? = X0.heap[q]?
section
variable {g : Nat} {A : Option Addr} {c : Nat} {lt : List S39} {b : Nat} {ok : Nat → Prop} {W X0 : World} {m : Nat} {r : Option Nat} {bx : Nat} {X : World} {k w wd : Int} {v : Value} {l : List S27} {N a : Nat}
theorem ST.below {Y : World} (h : ST g A c lt b ok W X0 m r bx X k w wd v l N a) (hb : Below X.heap.size X Y) : ST g A c lt b ok W X0 m r bx Y k w wd v l N a :=
 ⟨h.ps.below hb, zaU h.box hb, h.nv.step (fun q _ hq => hb.block q hq), h.fr.trans (r' := none) (Fr.of_below hb) (fun q hq => by cases hq), h.near, Nat.le_trans h.sz hb.size, fun q h1 h2 h3 => (hb.block q (by have := h.sz; omega)).trans (h.keep q h1 h2 h3)⟩
theorem ST.row (h : ST g A c lt b ok W X0 m r bx X k w wd v l N a) {q : Nat} (h1 : W.heap.size ≤ q) (h2 : q < W.heap.size + m) : some q ≠ v.ownBlock := fun e => by
 have := (h.nv.row.1 q e.symm).2; omega
theorem ST.var {w2 : World} {q : Nat} (h : ST g A c lt b ok W X0 m r bx X k w wd v l N a) (hgW : g < W.heap.size) (hF : Fr g v.ownBlock X w2) (h1 : W.heap.size ≤ q) (h2 : q < W.heap.size + m) : w2.heap[q]? = X.heap[q]? :=
 hF.block q (by have := h.sz; omega) (by omega) (h.row h1 h2)
theorem ST.put {w2 : World} {wd2 : Int} {u : Value} {l2 : List S27} {N2 a2 : Nat} (h : ST g A c lt b ok W X0 m r bx X k w wd v l N a) (hgW : g < W.heap.size) (h1 : W.heap.size ≤ bx) (h2 : bx < W.heap.size + m) (hP : PS w2 g A c lt a2) (hN : NV b (okm ok W m) w2 k w wd2 u l2 N2) (hF : Fr g v.ownBlock X w2) (hu : Near X v.ownBlock u) :
  ST g A c lt b ok W X0 m r bx (putN w2 bx k w wd2 u) k w wd2 u l2 N2 a2 := by
 have hs := h.sz; have ho : ∀ q, W.heap.size ≤ q → q < W.heap.size + m → w2.heap[q]? = X.heap[q]? := fun q h1 h2 => hF.block q (by omega) (by omega) (h.row h1 h2)
 have hr : ∀ q, v.ownBlock = some q → r = some q ∨ W.heap.size ≤ q := fun q hq => by
  rcases h.near with e | ⟨q', e, h'⟩
  ·exact .inl (by rw [← e, hq])
  ·rw [hq] at e; injection e with e; exact .inr (by omega)
 refine ⟨hP.keep (fun q hq => zbH (by omega)), zbe ((ho bx h1 h2).trans h.box), hN.step (fun q hq _ => zbH (by have := hq.2; omega)), putN_fr (h.fr.trans hF hr) h1, ?_, by rw [putN_size]; exact Nat.le_trans hs hF.size, fun q h3 h4 h5 => (zbH h5).trans ((ho q h3 h4).trans (h.keep q h3 h4 h5))⟩
 rcases hu with e | ⟨q, e, hq⟩
 ·rcases h.near with e2 | ⟨q, e2, hq⟩
  ·exact .inl (e.trans e2)
  ·exact .inr ⟨q, e.trans e2, hq⟩
 ·exact .inr ⟨q, e, by omega⟩
theorem ST.ret {w2 : World} {wd2 : Int} {u : Value} {l2 : List S27} {N2 a2 rx : Nat} (h : ST g A c lt b ok W X0 m r bx X k w wd v l N a) (hgW : g < W.heap.size) (h1 : W.heap.size ≤ rx) (h2 : rx < W.heap.size + m) (hP : PS w2 g A c lt a2) (hN : NV b (okm ok W m) w2 k w wd2 u l2 N2) (hF : Fr g v.ownBlock X w2) (hu : Near X v.ownBlock u) :
  Ext g A c lt b ok W k w r a2 N2 (.returned (.agg #[.int .u8 k, .int .u8 w, .int .i64 wd2, u])) (putN w2 rx k w wd2 u) := by
 have hs := h.sz; have hr : ∀ q, v.ownBlock = some q → r = some q ∨ W.heap.size ≤ q := fun q hq => by
  rcases h.near with e | ⟨q', e, h'⟩
  ·exact .inl (by rw [← e, hq])
  ·rw [hq] at e; injection e with e; exact .inr (by omega)
 refine Ext.done hP hN (h.fr.trans hF hr) ?_ h1 h2 hgW
 rcases hu with e | ⟨q, e, hq⟩
 ·rcases h.near with e2 | ⟨q, e2, hq⟩
  ·exact .inl (e.trans e2)
  ·exact .inr ⟨q, e.trans e2, hq⟩
 ·exact .inr ⟨q, e, by omega⟩
theorem ST.at_ {a2 : Nat} (h : ST g A c lt b ok W X0 m r bx X k w wd v l N a) (hgW : g < W.heap.size) (hg : ∀ q, ok q → g < q) (hbx : g < bx) (ha : a2 ≤ lt.length) : ST g A c lt b ok W X0 m r bx (X.setCell ⟨g, 1, none⟩ (.int .i64 (a2 : Int))) k w wd v l N a2 := by
 have ho : ∀ q, q ≠ g → (X.setCell ⟨g, 1, none⟩ (.int .i64 (a2 : Int))).heap[q]? = X.heap[q]? := fun q hq => Below.heap_setCell _ _ _ _ hq
 obtain ⟨sk, pt, hblk⟩ := h.ps.blk; refine ⟨⟨⟨sk, pt, by simpa using zbs hblk 1 (.int .i64 (a2 : Int))⟩, h.ps.cap, h.ps.len, Kd.F_step h.ps.toks (fun q hq _ => ho q (by omega)), ha⟩, (ho bx (by omega)).trans h.box, h.nv.step (fun q hq _ => ho q (by have := hg q hq.1; omega)), ?_, h.near, by simpa using h.sz, fun q h1 h2 h3 => (ho q (by omega)).trans (h.keep q h1 h2 h3)⟩
 exact ⟨by simp [World.setCell, h.fr.os], by simp [World.setCell, h.fr.tape], by simp [World.setCell, h.fr.output], by simpa using h.fr.size, fun q hq h1 h2 => (ho q h1).trans (h.fr.block q hq h1 h2)⟩
theorem ST.asked (z : Int) (h : ST g A c lt b ok W X0 m r bx X k w wd v l N a) (hgW : g < W.heap.size) (hg : ∀ q, ok q → g < q) (hbx : g < bx) : ST g A c lt b ok W X0 m r bx (X.setCell ⟨g, 3, none⟩ (.int .i64 z)) k w wd v l N a := by
 have ho : ∀ q, q ≠ g → (X.setCell ⟨g, 3, none⟩ (.int .i64 z)).heap[q]? = X.heap[q]? := fun q hq => Below.heap_setCell _ _ _ _ hq
 obtain ⟨sk, pt, hblk⟩ := h.ps.blk; refine ⟨⟨⟨z, pt, by simpa using zbs hblk 3 (.int .i64 z)⟩, h.ps.cap, h.ps.len, Kd.F_step h.ps.toks (fun q hq _ => ho q (by omega)), h.ps.le⟩, (ho bx (by omega)).trans h.box, h.nv.step (fun q hq _ => ho q (by have := hg q hq.1; omega)), ?_, h.near, by simpa using h.sz, fun q h1 h2 h3 => (ho q (by omega)).trans (h.keep q h1 h2 h3)⟩
 exact ⟨by simp [World.setCell, h.fr.os], by simp [World.setCell, h.fr.tape], by simp [World.setCell, h.fr.output], by simpa using h.fr.size, fun q hq h1 h2 => (ho q h1).trans (h.fr.block q hq h1 h2)⟩
theorem ST.done {rx : Nat} (h : ST g A c lt b ok W X0 m r bx X k w wd v l N a) (hgW : g < W.heap.size) (h1 : W.heap.size ≤ rx) (h2 : rx < W.heap.size + m) : Ext g A c lt b ok W k w r a N (.returned (.agg #[.int .u8 k, .int .u8 w, .int .i64 wd, v])) (putN X rx k w wd v) :=
 Ext.done h.ps h.nv h.fr h.near h1 h2 hgW
theorem ST.start2 {X : World} (hP : PS W g A c lt a) (hN : NV b ok W k w wd v l N) (hX : X = (W.alloc (nodeO k w wd v)).alloc (nodeO 0 0 0 (.slice none 0 0))) : ST g A c lt b ok W X 2 v.ownBlock W.heap.size X k w wd v l N a ∧ X.heap[W.heap.size + 1]? = some (nodeO 0 0 0 (.slice none 0 0)) := by
 obtain ⟨hs2, hb2, k0, k1⟩ := alloc2 hX; exact ⟨⟨hP.below hb2, k0, hN.enter 2 hb2, Fr.of_below hb2, .inl rfl, by omega, fun q _ _ _ => rfl⟩, k1⟩
theorem ST.cells (h : ST g A c lt b ok W X0 m r bx X k w wd v l N a) : X.cell? ⟨bx, 0, none⟩ = some (.int .u8 k) ∧ X.cell? ⟨bx, 1, none⟩ = some (.int .u8 w) ∧ X.cell? ⟨bx, 2, none⟩ = some (.int .i64 wd) ∧ X.cell? ⟨bx, 3, none⟩ = some v := by
 have k0 := zae h.box 0; have k1 := zae h.box 1; have k2 := zae h.box 2; have k3 := zae h.box 3; simp at k0 k1 k2 k3; exact ⟨k0, k1, k2, k3⟩
theorem ST.pcells (h : ST g A c lt b ok W X0 m r bx X k w wd v l N a) : X.cell? ⟨g, 0, none⟩ = some (.slice A lt.length c) ∧ X.cell? ⟨g, 1, none⟩ = some (.int .i64 (a : Int)) := by
 obtain ⟨sk, pt, hblk⟩ := h.ps.blk; have k0 := zae hblk 0; have k1 := zae hblk 1; simp at k0 k1; exact ⟨k0, k1⟩
theorem PS.cells {X : World} {g : Nat} {A : Option Addr} {c : Nat} {lt : List S39} {a : Nat} (h : PS X g A c lt a) : X.cell? ⟨g, 0, none⟩ = some (.slice A lt.length c) ∧ X.cell? ⟨g, 1, none⟩ = some (.int .i64 (a : Int)) := by
 obtain ⟨sk, pt, hblk⟩ := h.blk; have k0 := zae hblk 0; have k1 := zae hblk 1; simp at k0 k1; exact ⟨k0, k1⟩
theorem zaD {X : World} {b : Nat} {o0 o1 o2 o3 : Value} (h : X.heap[b]? = some (.cells #[o0, o1, o2, o3] 27 (0, 0))) : (X.cell? ⟨b, 0, none⟩ = some o0 ∧ X.cell? ⟨b, 1, none⟩ = some o1 ∧ X.cell? ⟨b, 2, none⟩ = some o2 ∧ X.cell? ⟨b, 3, none⟩ = some o3) ∧ b < X.heap.size := by
 have k0 := zae h 0; have k1 := zae h 1; have k2 := zae h 2; have k3 := zae h 3; simp at k0 k1 k2 k3; exact ⟨⟨k0, k1, k2, k3⟩, zaM h⟩
end
def TkOk (lt : List S39) : Prop := ∀ i : Nat, i < lt.length → (0 ≤ (zbc lt i).f0 ∧ (zbc lt i).f0 ≤ 255) ∧ (-9223372036854775808 ≤ (zbc lt i).f1 ∧ (zbc lt i).f1 ≤ 9223372036854775807)
theorem PS.tok {W : World} {g : Nat} {A : Option Addr} {c : Nat} {lt : List S39} {a : Nat} (h : PS W g A c lt a) (hi : a < lt.length) : ∃ ad, A = some ad ∧ ∀ (X : World) (a' : Nat), PS X g A c lt a' → X.cell? (ad.add (a * 3)) = some (.int .u8 (zbc lt a).f0) ∧ X.cell? ⟨(ad.add (a * 3)).block, (ad.add (a * 3)).off + 1, none⟩ = some (.int .i64 (zbc lt a).f1) := by
 obtain ⟨ad, e, _⟩ := at_T39 (Kd.F_now h.toks) (a : Int) (by omega) (by omega)
 refine ⟨ad, e, fun X a' hX => ?_⟩
 obtain ⟨ad', e', g0, g1, g2⟩ := at_T39 (Kd.F_now hX.toks) (a : Int) (by omega) (by omega)
 rw [e] at e'; injection e' with e'
 subst e'; rw [Int.toNat_natCast] at g0 g1; exact ⟨g0, g1⟩
set_option maxHeartbeats 8000000 in
set_option maxRecDepth 100000 in
theorem zb1 (g : Nat) (A : Option Addr) (c : Nat) (lt : List S39) (htk : TkOk lt) (a : Nat) (b : Nat) (ok : Nat → Prop) (W : World) (k w wd : Int) (v : Value) (l : List S27) (N : Nat) (hP : PS W g A c lt a) (hN : NV b ok W k w wd v l N) (hb : b ≤ W.heap.size) (hg : ∀ q, ok q → g < q) (hf : ∀ q, W.heap.size ≤ q → ok q) (hs : N + (hd lt a - a) ≤ 999999) :
  Calls Try.prog 36 #[.pointer (some ⟨g, 0, none⟩), .agg #[.int .u8 k, .int .u8 w, .int .i64 wd, v]] W (Ext g A c lt b ok W k w v.ownBlock (hd lt a) (N + (hd lt a - a))) := by
 obtain ⟨AA, cc, rfl, hlc, hC⟩ := Kd.zaQ hN.row; have HF := zaa.mk hf; have HG := zaa.mk hg; have HGW := zaa.mk hP.lt; have HTO := zaa.mk htk; have hle := hd_le hP.le; have hge := hd_ge lt a; have hlen := hP.len; obtain ⟨h, hh⟩ : ∃ h, h = hd lt a := ⟨_, rfl⟩; rw [← hh] at hle hge hs ⊢; have HH := zaa.mk hh; clear hf hg hC htk hh; have hu := Try.underlying27; go_enter Try.func36, Try.ntmps36
 go_upto_region 1 with (fail)
 obtain ⟨X, hX⟩ : ∃ X, X = (W.alloc (nodeO k w wd (.slice AA l.length cc))).alloc (nodeO 0 0 0 (.slice none 0 0)) := ⟨_, rfl⟩; obtain ⟨hst, hrx⟩ := ST.start2 hP hN hX; have HST := zaa.mk hst; have HRX := zaa.mk hrx; change Code.wp Try.prog _ _ _ ((W.alloc (nodeO k w wd (.slice AA l.length cc))).alloc (nodeO 0 0 0 (.slice none 0 0)))
 rw [← hX]; clear hst hrx hX hP hN; have HHC := zaa.mk (hand_calls g A c lt a X HST.out.ps); rw [← HH.out] at HHC; go_wp2_with (go_at_call 45; refine HHC.out.mono ?_; rintro e w2 ⟨rfl, hb2⟩; have HST0 := zaa.mk (HST.out.below hb2); clear hb2 HST HHC)
 go_loopg [] (h - a) (fun kq w' => ∃ (i : Nat) (wd1 : Int) (v1 : Value) (l1 : List S27) (N1 : Nat), a ≤ i ∧ i ≤ h ∧ zaa (kq = h - i) ∧ zaa (N1 = N + (i - a)) ∧ zaa (ST g A c lt b ok W X 2 (Value.slice AA l.length cc).ownBlock W.heap.size w' k w wd1 v1 l1 N1 i))
 case atStart => exact ⟨a, wd, _, l, N, Nat.le_refl _, hge, ⟨rfl⟩, ⟨by omega⟩, HST0⟩
 case round =>
  obtain ⟨i, wd1, v1, l1, N1, ha1, hih, HK, HN1E, HST⟩ := hrel; obtain ⟨A1, c1, rfl, _, _⟩ := Kd.zaQ HST.out.nv.row; have HN1 := zaa.mk (show N1 + 1 ≤ 1000000 by have := HN1E.out; omega)
  obtain ⟨p0, p1⟩ := HST.out.pcells; by_cases hlt : i < h
  ·obtain ⟨ad, rfl, htk⟩ := HST.out.ps.tok (by omega)
   have HTR := zaa.mk (HTO.out i (by omega))
   obtain ⟨tk, htk1⟩ : ∃ tk, tk = (zbc lt i).f0 := ⟨_, rfl⟩; obtain ⟨tw, htw1⟩ : ∃ tw, tw = (zbc lt i).f1 := ⟨_, rfl⟩; rw [← htk1, ← htw1] at HTR; simp only [← htk1, ← htw1] at htk; have HTK := zaa.mk (fun (X : World) (h : PS X g (some ad) c lt i) => htk X i h)
   clear htk htk1 htw1; go_wp2_with fail
   clear p0 p1; obtain ⟨X1, hX1⟩ : ∃ X1, X1 = wr := ⟨_, rfl⟩; rw [← hX1] at HST ⊢; clear hX1; have hil : i < lt.length := by omega
   have HD := zaa.mk (HST.out.below (Y := X1.drew) (Below.refl _ _).drew); have HTD := zaa.mk (HTK.out _ HD.out.ps); have HS0 := zaa.mk (And.intro HD.out.cells (And.intro HD.out.pcells HTD.out)); clear HST; refine wp_region_noPanic (zbx [0, 1, 2, 3, 4, 5, 6, 7, 8, 9, 10, 11, 12, 13, 14, 15, 16, 17, 18, 19, 20, 21, 22, 23, 24] (fun W' => (W'.cell? ⟨W.heap.size, 0, none⟩ = some (.int .u8 k) ∧ W'.cell? ⟨W.heap.size, 1, none⟩ = some (.int .u8 w) ∧ W'.cell? ⟨W.heap.size, 2, none⟩ = some (.int .i64 wd1) ∧ W'.cell? ⟨W.heap.size, 3, none⟩ = some (.slice A1 l1.length c1)) ∧ (W'.cell? ⟨g, 0, none⟩ = some (.slice (some ad) lt.length c) ∧ W'.cell? ⟨g, 1, none⟩ = some (.int .i64 (i : Int))) ∧ W'.cell? (ad.add (i * 3)) = some (.int .u8 tk) ∧ W'.cell? ⟨(ad.add (i * 3)).block, (ad.add (i * 3)).off + 1, none⟩ = some (.int .i64 tw)) (by kernel_rfl) ?_)
   refine zar 0 (v := ?_) HS0.out ?_ ?_
   rotate_left
   ·(intro W' hW'; obtain ⟨⟨s0, s1, s2, s3⟩, ⟨p0, p1⟩, t0, t1⟩ := hW'; go_simp; try rfl)
   simp only [Act.put, zav]; refine zar 1 (v := ?_) HS0.out ?_ ?_
   rotate_left
   ·(intro W' hW'; obtain ⟨⟨s0, s1, s2, s3⟩, ⟨p0, p1⟩, t0, t1⟩ := hW'; go_simp; try rfl)
   simp only [Act.put, zav]; refine zar 2 (v := ?_) HS0.out ?_ ?_
   rotate_left
   ·(intro W' hW'; obtain ⟨⟨s0, s1, s2, s3⟩, ⟨p0, p1⟩, t0, t1⟩ := hW'; go_simp; try rfl)
   simp only [Act.put, zav]; refine zar 3 (v := ?_) HS0.out ?_ ?_
   rotate_left
   ·(intro W' hW'; obtain ⟨⟨s0, s1, s2, s3⟩, ⟨p0, p1⟩, t0, t1⟩ := hW'; go_simp; try rfl)
   simp only [Act.put, zav]; refine zar 4 (v := ?_) HS0.out ?_ ?_
   rotate_left
   ·(intro W' hW'; obtain ⟨⟨s0, s1, s2, s3⟩, ⟨p0, p1⟩, t0, t1⟩ := hW'; go_simp; try rfl)
   simp only [Act.put, zav]; refine zar 5 (v := ?_) HS0.out ?_ ?_
   rotate_left
   ·(intro W' hW'; obtain ⟨⟨s0, s1, s2, s3⟩, ⟨p0, p1⟩, t0, t1⟩ := hW'; go_simp; try rfl)
   simp only [Act.put, zav]; refine zar 6 (v := ?_) HS0.out ?_ ?_
   rotate_left
   ·(intro W' hW'; obtain ⟨⟨s0, s1, s2, s3⟩, ⟨p0, p1⟩, t0, t1⟩ := hW'; go_simp; try rfl)
   simp only [Act.put, zav]; refine zar 7 (v := ?_) HS0.out ?_ ?_
   rotate_left
   ·(intro W' hW'; obtain ⟨⟨s0, s1, s2, s3⟩, ⟨p0, p1⟩, t0, t1⟩ := hW'; go_simp; try rfl)
   simp only [Act.put, zav]; refine zar 8 (v := ?_) HS0.out ?_ ?_
   rotate_left
   ·(intro W' hW'; obtain ⟨⟨s0, s1, s2, s3⟩, ⟨p0, p1⟩, t0, t1⟩ := hW'; go_simp; try rfl)
   simp only [Act.put, zav]; refine zar 9 (v := ?_) HS0.out ?_ ?_
   rotate_left
   ·(intro W' hW'; obtain ⟨⟨s0, s1, s2, s3⟩, ⟨p0, p1⟩, t0, t1⟩ := hW'; go_simp; try rfl)
   simp only [Act.put, zav]; refine zar 10 (v := ?_) HS0.out ?_ ?_
   rotate_left
   ·(intro W' hW'; obtain ⟨⟨s0, s1, s2, s3⟩, ⟨p0, p1⟩, t0, t1⟩ := hW'; go_simp; try rfl)
   simp only [Act.put, zav]; refine zar 11 (v := ?_) HS0.out ?_ ?_
   rotate_left
   ·(intro W' hW'; obtain ⟨⟨s0, s1, s2, s3⟩, ⟨p0, p1⟩, t0, t1⟩ := hW'; go_simp; try rfl)
   simp only [Act.put, zav]; refine zar 12 (v := ?_) HS0.out ?_ ?_
   rotate_left
   ·(intro W' hW'; obtain ⟨⟨s0, s1, s2, s3⟩, ⟨p0, p1⟩, t0, t1⟩ := hW'; go_simp; try rfl)
   simp only [Act.put, zav]; refine zar 13 (v := ?_) HS0.out ?_ ?_
   rotate_left
   ·(intro W' hW'; obtain ⟨⟨s0, s1, s2, s3⟩, ⟨p0, p1⟩, t0, t1⟩ := hW'; go_simp; try rfl)
   simp only [Act.put, zav]; refine zar 14 (v := ?_) HS0.out ?_ ?_
   rotate_left
   ·(intro W' hW'; obtain ⟨⟨s0, s1, s2, s3⟩, ⟨p0, p1⟩, t0, t1⟩ := hW'; go_simp; try rfl)
   simp only [Act.put, zav]; refine zar 15 (v := ?_) HS0.out ?_ ?_
   rotate_left
   ·(intro W' hW'; obtain ⟨⟨s0, s1, s2, s3⟩, ⟨p0, p1⟩, t0, t1⟩ := hW'; go_simp; try rfl)
   simp only [Act.put, zav]; refine zar 16 (v := ?_) HS0.out ?_ ?_
   rotate_left
   ·(intro W' hW'; obtain ⟨⟨s0, s1, s2, s3⟩, ⟨p0, p1⟩, t0, t1⟩ := hW'; go_simp; try rfl)
   simp only [Act.put, zav]; refine zar 17 (v := ?_) HS0.out ?_ ?_
   rotate_left
   ·(intro W' hW'; obtain ⟨⟨s0, s1, s2, s3⟩, ⟨p0, p1⟩, t0, t1⟩ := hW'; go_simp; try rfl)
   simp only [Act.put, zav]; refine zar 18 (v := ?_) HS0.out ?_ ?_
   rotate_left
   ·(intro W' hW'; obtain ⟨⟨s0, s1, s2, s3⟩, ⟨p0, p1⟩, t0, t1⟩ := hW'; go_simp; try rfl)
   simp only [Act.put, zav]; refine zar 19 (v := ?_) HS0.out ?_ ?_
   rotate_left
   ·(intro W' hW'; obtain ⟨⟨s0, s1, s2, s3⟩, ⟨p0, p1⟩, t0, t1⟩ := hW'; go_simp; try rfl)
   simp only [Act.put, zav]; refine zar 20 (v := ?_) HS0.out ?_ ?_
   rotate_left
   ·(intro W' hW'; obtain ⟨⟨s0, s1, s2, s3⟩, ⟨p0, p1⟩, t0, t1⟩ := hW'; go_simp; try rfl)
   simp only [Act.put, zav]; refine zar 21 (v := ?_) HS0.out ?_ ?_
   rotate_left
   ·(intro W' hW'; obtain ⟨⟨s0, s1, s2, s3⟩, ⟨p0, p1⟩, t0, t1⟩ := hW'; go_simp; try rfl)
   simp only [Act.put, zav]; refine zar 22 (v := ?_) HS0.out ?_ ?_
   rotate_left
   ·(intro W' hW'; obtain ⟨⟨s0, s1, s2, s3⟩, ⟨p0, p1⟩, t0, t1⟩ := hW'; go_simp; try rfl)
   simp only [Act.put, zav]; refine zar 23 (v := ?_) HS0.out ?_ ?_
   rotate_left
   ·(intro W' hW'; obtain ⟨⟨s0, s1, s2, s3⟩, ⟨p0, p1⟩, t0, t1⟩ := hW'; go_simp; try rfl)
   simp only [Act.put, zav]; refine zaX (i := 24) rfl (by kernel_rfl) (fun K hK => ?_)
   go_simp
   refine (zb5 b (okm ok W 2) _ k w wd1 (.slice A1 l1.length c1) l1 N1 tk 0 tw (.slice none 0 0) [] 1 HD.out.nv (by have := HD.out.sz; omega) (fun q hq => ⟨HF.out q (by have := HD.out.sz; omega), .inr (by have := HD.out.sz; omega)⟩) (NV.leaf HTR.out.1 (by omega) HTR.out.2 (Nat.le_refl _)) (by have := HN1.out; omega)).mono ?_
   rintro e w2 ⟨wd2, u, l2, rfl, h1, h2, h3⟩
   obtain ⟨A2, c2, rfl, _, _⟩ := Kd.zaQ h1.row; have hps := HD.out.ps.keep (W' := w2) (fun q hq => h2.block q (by have := HD.out.ps.lt; omega) (fun e => by have := HG.out q (HD.out.nv.row.1 q e.symm).1; omega))
   have HST2 := zaa.mk (HD.out.put HGW.out (Nat.le_refl _) (by omega) hps h1 (Fr.za1 h2) h3)
   have r0 := (h2.block W.heap.size (by have := HD.out.sz; omega) (HD.out.row (Nat.le_refl _) (by omega))).trans HD.out.box
   have f0 := zab r0 0; have f1 := zab r0 1; have f2 := zab r0 2; have f3 := zab r0 3; obtain ⟨⟨d0, d1, d2, d3⟩, dl⟩ := zaD r0; have HS1 := zaa.mk (show (w2.cell? ⟨W.heap.size, 0, none⟩ = some (.int .u8 k) ∧ w2.cell? ⟨W.heap.size, 1, none⟩ = some (.int .u8 w) ∧ w2.cell? ⟨W.heap.size, 2, none⟩ = some (.int .i64 wd1) ∧ w2.cell? ⟨W.heap.size, 3, none⟩ = some (.slice A1 l1.length c1)) ∧ (w2.cell? ⟨g, 0, none⟩ = some (.slice (some ad) lt.length c) ∧ w2.cell? ⟨g, 1, none⟩ = some (.int .i64 (i : Int))) ∧ w2.cell? (ad.add (i * 3)) = some (.int .u8 tk) ∧ w2.cell? ⟨(ad.add (i * 3)).block, (ad.add (i * 3)).off + 1, none⟩ = some (.int .i64 tw) from ⟨⟨d0, d1, d2, d3⟩, hps.cells, HTK.out _ hps⟩)
   clear h1 h2 h3 hps r0; refine hK.out _ _ (fun _ => HS1.out) (fun _ => ?_)
   clear hK K; try simp only [Act.put, zav]
   refine zaX (i := 25) rfl (by kernel_rfl) (fun K hK => ?_)
   go_simp
   refine hK.out _ _ (fun h => Bool.noConfusion (show false = true from h)) (fun _ => ?_)
   clear hK K; try simp only [Act.put, zav]
   refine zbd (by kernel_rfl) (NoPanic.normal ?_) _
   clear d0 d1 d2 d3 dl f0 f1 f2 f3 HD HTD HS0 HS1; obtain ⟨X2, hX2⟩ : ∃ X2, X2 = putN w2 W.heap.size k w wd2 (.slice A2 l2.length c2) := ⟨_, rfl⟩; rw [← hX2] at HST2; simp only [putN] at hX2; rw [← hX2]; clear hX2; obtain ⟨sk, pt, hblk⟩ := HST2.out.ps.blk; have gf := zab hblk 1; have gl := zaM hblk; have g1 := zae hblk 1; simp at g1; have HI := zaa.mk (show i + 1 ≤ lt.length by omega)
   clear hblk; go_wp2
   go_roundg (h - (i + 1))
   case measure => have := HK.out; omega
   case rel =>
    refine ⟨i + 1, wd2, .slice A2 l2.length c2, l2, N1 + 1, by omega, by omega, ⟨rfl⟩, ⟨by have := HN1E.out; omega⟩, ⟨?_⟩⟩
    have h2 := HST2.out.at_ (a2 := i + 1) HGW.out HG.out HGW.out HI.out; have he : ((i + 1 : Nat) : Int) = (i : Int) + 1 := by omega
    rw [he] at h2; exact h2
  ·obtain rfl : i = h := by omega
   have hrb := (HST.out.keep (W.heap.size + 1) (by omega) (by omega) (by omega)).trans HRX.out
   have HRB := zaa.mk hrb; have f0 := zab hrb 0; have f1 := zab hrb 1; have f2 := zab hrb 2; have f3 := zab hrb 3; obtain ⟨⟨d0, d1, d2, d3⟩, dl⟩ := zaD hrb; obtain ⟨x0, x1, x2, x3⟩ := HST.out.cells; clear hrb; go_wp2
   have hgl := HGW.out; refine bodyPost_ret (zaR (r := .cell 4 27) rfl (.cell (W.heap.size + 1) 27 _ (0, 0) _ rfl (zbe HRB.out) Try.underlying27 rfl (by kernel_rfl) .nil)) rfl ?_
   have h2 := HST.out.done (rx := W.heap.size + 1) hgl (by omega) (by omega)
   rw [HN1E.out] at h2; exact h2
theorem okm_g {ok : Nat → Prop} {W : World} {m g : Nat} (hg : ∀ q, ok q → g < q) : ∀ q, okm ok W m q → g < q := fun q hq => hg q hq.1
theorem okm_f {ok : Nat → Prop} {W X : World} {m : Nat} (hf : ∀ q, W.heap.size ≤ q → ok q) (hX : W.heap.size + m ≤ X.heap.size) : ∀ q, X.heap.size ≤ q → okm ok W m q := fun q hq => ⟨hf q (by omega), .inr (by omega)⟩
set_option maxHeartbeats 8000000 in
set_option maxRecDepth 100000 in
theorem zbw (g : Nat) (A : Option Addr) (c : Nat) (lt : List S39) (htk : TkOk lt) (a : Nat) (b : Nat) (ok : Nat → Prop) (W : World) (k w wd : Int) (v : Value) (l : List S27) (N : Nat) (hP : PS W g A c lt a) (hN : NV b ok W k w wd v l N) (hb : b ≤ W.heap.size) (hg : ∀ q, ok q → g < q) (hf : ∀ q, W.heap.size ≤ q → ok q) (hlt : hd lt a < lt.length) (hs : N + (hd lt a + 1 - a) ≤ 999999) :
  Calls Try.prog 50 #[.pointer (some ⟨g, 0, none⟩), .agg #[.int .u8 k, .int .u8 w, .int .i64 wd, v]] W (Ext g A c lt b ok W k w v.ownBlock (hd lt a + 1) (N + (hd lt a + 1 - a))) := by
 obtain ⟨AA, cc, rfl, hlc, hC⟩ := Kd.zaQ hN.row; have HF := zaa.mk hf; have HG := zaa.mk hg; have HGW := zaa.mk hP.lt; have HTO := zaa.mk htk; have hge := hd_ge lt a; have hlen := hP.len; obtain ⟨i, hh⟩ : ∃ h, h = hd lt a := ⟨_, rfl⟩; have hgap := fun (ok : Nat → Prop) (W : World) (hP : PS W g A c lt a) (hN : NV b ok W k w wd (.slice AA l.length cc) l N) (hb : b ≤ W.heap.size) (hg : ∀ q, ok q → g < q) (hf : ∀ q, W.heap.size ≤ q → ok q) => zb1 g A c lt htk a b ok W k w wd _ l N hP hN hb hg hf (by omega)
 rw [← hh] at hge hs hlt hgap ⊢; have HGAP := zaa.mk hgap; clear hf hg hC htk hh hgap; have hu := Try.underlying27; go_enter Try.func50, Try.ntmps50
 go_upto_region 1 with (fail)
 obtain ⟨X, hX⟩ : ∃ X, X = (W.alloc (nodeO k w wd (.slice AA l.length cc))).alloc (nodeO 0 0 0 (.slice none 0 0)) := ⟨_, rfl⟩; obtain ⟨hst, hrx⟩ := ST.start2 hP hN hX; have HS0 := zaa.mk hst; have HRX := zaa.mk hrx; obtain ⟨x0, x1, x2, x3⟩ := hst.cells; change Code.wp Try.prog _ _ _ ((W.alloc (nodeO k w wd (.slice AA l.length cc))).alloc (nodeO 0 0 0 (.slice none 0 0)))
 rw [← hX]; clear hst hrx hX hP hN; go_upto_region 2 with (go_at_call 36; refine (HGAP.out (okm ok W 2) X HS0.out.ps HS0.out.nv (by have := HS0.out.sz; omega) (okm_g HG.out) (okm_f HF.out HS0.out.sz)).mono ?_; rintro e w1 ⟨wd1, u, l1, rfl, h1, h2, h3, h4⟩; obtain ⟨A1, c1, rfl, _, _⟩ := Kd.zaQ h2.row; have HST := zaa.mk (HS0.out.put HGW.out (by omega) (by omega) h1 h2 h3 h4); have r0 := (HS0.out.var HGW.out h3 (q := W.heap.size) (by omega) (by omega)).trans HS0.out.box; have f0 := zab r0 0; have f1 := zab r0 1; have f2 := zab r0 2; have f3 := zab r0 3; obtain ⟨⟨d0, d1, d2, d3⟩, dl⟩ := zaD r0; clear h1 h2 h3 h4 r0 x0 x1 x2 x3)
 obtain ⟨X1, hX1⟩ : ∃ X1, X1 = putN w1 W.heap.size k w wd1 (.slice A1 l1.length c1) := ⟨_, rfl⟩; rw [← hX1] at HST; simp only [putN] at hX1; rw [← hX1]; clear hX1 f0 f1 f2 f3 d0 d1 d2 d3 dl; obtain ⟨N1, hN1⟩ : ∃ N1, N1 = N + (i - a) := ⟨_, rfl⟩; rw [← hN1] at HST; have HN1E := zaa.mk hN1; have HN1 := zaa.mk (show N1 + 1 ≤ 1000000 by omega)
 clear hN1 HS0 HGAP; obtain ⟨ad, rfl, htk⟩ := HST.out.ps.tok hlt; have HTR := zaa.mk (HTO.out i hlt); obtain ⟨tk, htk1⟩ : ∃ tk, tk = (zbc lt i).f0 := ⟨_, rfl⟩; obtain ⟨tw, htw1⟩ : ∃ tw, tw = (zbc lt i).f1 := ⟨_, rfl⟩; rw [← htk1, ← htw1] at HTR; simp only [← htk1, ← htw1] at htk; have HTK := zaa.mk (fun (X : World) (h : PS X g (some ad) c lt i) => htk X i h)
 clear htk htk1 htw1; have hil : i < lt.length := hlt; have HD := zaa.mk (HST.out.below (Y := X1.drew) (Below.refl _ _).drew); have HTD := zaa.mk (HTK.out _ HD.out.ps); have HS0 := zaa.mk (And.intro HD.out.cells (And.intro HD.out.pcells HTD.out)); clear HST; refine wp_region_noPanic (zbx [0, 1, 2, 3, 4, 5, 6, 7, 8, 9, 10, 11, 12, 13, 14, 15, 16, 17, 18, 19, 20, 21, 22, 23, 24] (fun W' => (W'.cell? ⟨W.heap.size, 0, none⟩ = some (.int .u8 k) ∧ W'.cell? ⟨W.heap.size, 1, none⟩ = some (.int .u8 w) ∧ W'.cell? ⟨W.heap.size, 2, none⟩ = some (.int .i64 wd1) ∧ W'.cell? ⟨W.heap.size, 3, none⟩ = some (.slice A1 l1.length c1)) ∧ (W'.cell? ⟨g, 0, none⟩ = some (.slice (some ad) lt.length c) ∧ W'.cell? ⟨g, 1, none⟩ = some (.int .i64 (i : Int))) ∧ W'.cell? (ad.add (i * 3)) = some (.int .u8 tk) ∧ W'.cell? ⟨(ad.add (i * 3)).block, (ad.add (i * 3)).off + 1, none⟩ = some (.int .i64 tw)) (by kernel_rfl) ?_)
 refine zar 0 (v := ?_) HS0.out ?_ ?_
 rotate_left
 ·(intro W' hW'; obtain ⟨⟨s0, s1, s2, s3⟩, ⟨p0, p1⟩, t0, t1⟩ := hW'; go_simp; try rfl)
 simp only [Act.put, zav]; refine zar 1 (v := ?_) HS0.out ?_ ?_
 rotate_left
 ·(intro W' hW'; obtain ⟨⟨s0, s1, s2, s3⟩, ⟨p0, p1⟩, t0, t1⟩ := hW'; go_simp; try rfl)
 simp only [Act.put, zav]; refine zar 2 (v := ?_) HS0.out ?_ ?_
 rotate_left
 ·(intro W' hW'; obtain ⟨⟨s0, s1, s2, s3⟩, ⟨p0, p1⟩, t0, t1⟩ := hW'; go_simp; try rfl)
 simp only [Act.put, zav]; refine zar 3 (v := ?_) HS0.out ?_ ?_
 rotate_left
 ·(intro W' hW'; obtain ⟨⟨s0, s1, s2, s3⟩, ⟨p0, p1⟩, t0, t1⟩ := hW'; go_simp; try rfl)
 simp only [Act.put, zav]; refine zar 4 (v := ?_) HS0.out ?_ ?_
 rotate_left
 ·(intro W' hW'; obtain ⟨⟨s0, s1, s2, s3⟩, ⟨p0, p1⟩, t0, t1⟩ := hW'; go_simp; try rfl)
 simp only [Act.put, zav]; refine zar 5 (v := ?_) HS0.out ?_ ?_
 rotate_left
 ·(intro W' hW'; obtain ⟨⟨s0, s1, s2, s3⟩, ⟨p0, p1⟩, t0, t1⟩ := hW'; go_simp; try rfl)
 simp only [Act.put, zav]; refine zar 6 (v := ?_) HS0.out ?_ ?_
 rotate_left
 ·(intro W' hW'; obtain ⟨⟨s0, s1, s2, s3⟩, ⟨p0, p1⟩, t0, t1⟩ := hW'; go_simp; try rfl)
 simp only [Act.put, zav]; refine zar 7 (v := ?_) HS0.out ?_ ?_
 rotate_left
 ·(intro W' hW'; obtain ⟨⟨s0, s1, s2, s3⟩, ⟨p0, p1⟩, t0, t1⟩ := hW'; go_simp; try rfl)
 simp only [Act.put, zav]; refine zar 8 (v := ?_) HS0.out ?_ ?_
 rotate_left
 ·(intro W' hW'; obtain ⟨⟨s0, s1, s2, s3⟩, ⟨p0, p1⟩, t0, t1⟩ := hW'; go_simp; try rfl)
 simp only [Act.put, zav]; refine zar 9 (v := ?_) HS0.out ?_ ?_
 rotate_left
 ·(intro W' hW'; obtain ⟨⟨s0, s1, s2, s3⟩, ⟨p0, p1⟩, t0, t1⟩ := hW'; go_simp; try rfl)
 simp only [Act.put, zav]; refine zar 10 (v := ?_) HS0.out ?_ ?_
 rotate_left
 ·(intro W' hW'; obtain ⟨⟨s0, s1, s2, s3⟩, ⟨p0, p1⟩, t0, t1⟩ := hW'; go_simp; try rfl)
 simp only [Act.put, zav]; refine zar 11 (v := ?_) HS0.out ?_ ?_
 rotate_left
 ·(intro W' hW'; obtain ⟨⟨s0, s1, s2, s3⟩, ⟨p0, p1⟩, t0, t1⟩ := hW'; go_simp; try rfl)
 simp only [Act.put, zav]; refine zar 12 (v := ?_) HS0.out ?_ ?_
 rotate_left
 ·(intro W' hW'; obtain ⟨⟨s0, s1, s2, s3⟩, ⟨p0, p1⟩, t0, t1⟩ := hW'; go_simp; try rfl)
 simp only [Act.put, zav]; refine zar 13 (v := ?_) HS0.out ?_ ?_
 rotate_left
 ·(intro W' hW'; obtain ⟨⟨s0, s1, s2, s3⟩, ⟨p0, p1⟩, t0, t1⟩ := hW'; go_simp; try rfl)
 simp only [Act.put, zav]; refine zar 14 (v := ?_) HS0.out ?_ ?_
 rotate_left
 ·(intro W' hW'; obtain ⟨⟨s0, s1, s2, s3⟩, ⟨p0, p1⟩, t0, t1⟩ := hW'; go_simp; try rfl)
 simp only [Act.put, zav]; refine zar 15 (v := ?_) HS0.out ?_ ?_
 rotate_left
 ·(intro W' hW'; obtain ⟨⟨s0, s1, s2, s3⟩, ⟨p0, p1⟩, t0, t1⟩ := hW'; go_simp; try rfl)
 simp only [Act.put, zav]; refine zar 16 (v := ?_) HS0.out ?_ ?_
 rotate_left
 ·(intro W' hW'; obtain ⟨⟨s0, s1, s2, s3⟩, ⟨p0, p1⟩, t0, t1⟩ := hW'; go_simp; try rfl)
 simp only [Act.put, zav]; refine zar 17 (v := ?_) HS0.out ?_ ?_
 rotate_left
 ·(intro W' hW'; obtain ⟨⟨s0, s1, s2, s3⟩, ⟨p0, p1⟩, t0, t1⟩ := hW'; go_simp; try rfl)
 simp only [Act.put, zav]; refine zar 18 (v := ?_) HS0.out ?_ ?_
 rotate_left
 ·(intro W' hW'; obtain ⟨⟨s0, s1, s2, s3⟩, ⟨p0, p1⟩, t0, t1⟩ := hW'; go_simp; try rfl)
 simp only [Act.put, zav]; refine zar 19 (v := ?_) HS0.out ?_ ?_
 rotate_left
 ·(intro W' hW'; obtain ⟨⟨s0, s1, s2, s3⟩, ⟨p0, p1⟩, t0, t1⟩ := hW'; go_simp; try rfl)
 simp only [Act.put, zav]; refine zar 20 (v := ?_) HS0.out ?_ ?_
 rotate_left
 ·(intro W' hW'; obtain ⟨⟨s0, s1, s2, s3⟩, ⟨p0, p1⟩, t0, t1⟩ := hW'; go_simp; try rfl)
 simp only [Act.put, zav]; refine zar 21 (v := ?_) HS0.out ?_ ?_
 rotate_left
 ·(intro W' hW'; obtain ⟨⟨s0, s1, s2, s3⟩, ⟨p0, p1⟩, t0, t1⟩ := hW'; go_simp; try rfl)
 simp only [Act.put, zav]; refine zar 22 (v := ?_) HS0.out ?_ ?_
 rotate_left
 ·(intro W' hW'; obtain ⟨⟨s0, s1, s2, s3⟩, ⟨p0, p1⟩, t0, t1⟩ := hW'; go_simp; try rfl)
 simp only [Act.put, zav]; refine zar 23 (v := ?_) HS0.out ?_ ?_
 rotate_left
 ·(intro W' hW'; obtain ⟨⟨s0, s1, s2, s3⟩, ⟨p0, p1⟩, t0, t1⟩ := hW'; go_simp; try rfl)
 simp only [Act.put, zav]; refine zaX (i := 24) rfl (by kernel_rfl) (fun K hK => ?_)
 go_simp
 refine (zb5 b (okm ok W 2) _ k w wd1 (.slice A1 l1.length c1) l1 N1 tk 0 tw (.slice none 0 0) [] 1 HD.out.nv (by have := HD.out.sz; omega) (fun q hq => ⟨HF.out q (by have := HD.out.sz; omega), .inr (by have := HD.out.sz; omega)⟩) (NV.leaf HTR.out.1 (by omega) HTR.out.2 (Nat.le_refl _)) (by have := HN1.out; omega)).mono ?_
 rintro e w2 ⟨wd2, u, l2, rfl, h1, h2, h3⟩
 obtain ⟨A2, c2, rfl, _, _⟩ := Kd.zaQ h1.row; have hps := HD.out.ps.keep (W' := w2) (fun q hq => h2.block q (by have := HD.out.ps.lt; omega) (fun e => by have := HG.out q (HD.out.nv.row.1 q e.symm).1; omega))
 have HST2 := zaa.mk (HD.out.put HGW.out (Nat.le_refl _) (by omega) hps h1 (Fr.za1 h2) h3)
 have r0 := (h2.block W.heap.size (by have := HD.out.sz; omega) (HD.out.row (Nat.le_refl _) (by omega))).trans HD.out.box
 have f0 := zab r0 0; have f1 := zab r0 1; have f2 := zab r0 2; have f3 := zab r0 3; obtain ⟨⟨d0, d1, d2, d3⟩, dl⟩ := zaD r0; have HS1 := zaa.mk (show (w2.cell? ⟨W.heap.size, 0, none⟩ = some (.int .u8 k) ∧ w2.cell? ⟨W.heap.size, 1, none⟩ = some (.int .u8 w) ∧ w2.cell? ⟨W.heap.size, 2, none⟩ = some (.int .i64 wd1) ∧ w2.cell? ⟨W.heap.size, 3, none⟩ = some (.slice A1 l1.length c1)) ∧ (w2.cell? ⟨g, 0, none⟩ = some (.slice (some ad) lt.length c) ∧ w2.cell? ⟨g, 1, none⟩ = some (.int .i64 (i : Int))) ∧ w2.cell? (ad.add (i * 3)) = some (.int .u8 tk) ∧ w2.cell? ⟨(ad.add (i * 3)).block, (ad.add (i * 3)).off + 1, none⟩ = some (.int .i64 tw) from ⟨⟨d0, d1, d2, d3⟩, hps.cells, HTK.out _ hps⟩)
 clear h1 h2 h3 hps r0; refine hK.out _ _ (fun _ => HS1.out) (fun _ => ?_)
 clear hK K; try simp only [Act.put, zav]
 refine zaX (i := 25) rfl (by kernel_rfl) (fun K hK => ?_)
 go_simp
 refine hK.out _ _ (fun h => Bool.noConfusion (show false = true from h)) (fun _ => ?_)
 clear hK K; try simp only [Act.put, zav]
 refine zbd (by kernel_rfl) (NoPanic.normal ?_) _
 clear d0 d1 d2 d3 dl f0 f1 f2 f3 HD HTD HS0 HS1; obtain ⟨X2, hX2⟩ : ∃ X2, X2 = putN w2 W.heap.size k w wd2 (.slice A2 l2.length c2) := ⟨_, rfl⟩; rw [← hX2] at HST2; simp only [putN] at hX2; rw [← hX2]; clear hX2; obtain ⟨sk, pt, hblk⟩ := HST2.out.ps.blk; have gf := zab hblk 1; have gl := zaM hblk; have g1 := zae hblk 1; simp at g1; have HI := zaa.mk (show i + 1 ≤ lt.length by omega)
 clear hblk; go_upto_region 4 with (fail)
 have h2 := HST2.out.at_ (a2 := i + 1) HGW.out HG.out HGW.out HI.out; have he : ((i + 1 : Nat) : Int) = (i : Int) + 1 := by omega
 rw [he] at h2; obtain ⟨X3, hX3⟩ : ∃ X3, X3 = X2.setCell ⟨g, 1, none⟩ (.int .i64 ((i : Int) + 1)) := ⟨_, rfl⟩; rw [← hX3] at h2 ⊢; have HST3 := zaa.mk h2; clear h2 hX3 gf gl g1; have hrb := (HST3.out.keep (W.heap.size + 1) (by omega) (by omega) (by omega)).trans HRX.out
 have HRB := zaa.mk hrb; have f0 := zab hrb 0; have f1 := zab hrb 1; have f2 := zab hrb 2; have f3 := zab hrb 3; obtain ⟨⟨d0, d1, d2, d3⟩, dl⟩ := zaD hrb; obtain ⟨x0, x1, x2, x3⟩ := HST3.out.cells; clear hrb; go_wp2
 have hgl := HGW.out; refine bodyPost_ret (zaR (r := .cell 4 27) rfl (.cell (W.heap.size + 1) 27 _ (0, 0) _ rfl (zbe HRB.out) Try.underlying27 rfl (by kernel_rfl) .nil)) rfl ?_
 have h2 := HST3.out.done (rx := W.heap.size + 1) hgl (by omega) (by omega)
 have e : N1 + 1 = N + (i + 1 - a) := by have := HN1E.out; omega
 rw [e] at h2; exact h2
set_option maxHeartbeats 8000000 in
set_option maxRecDepth 100000 in
theorem zbC (g : Nat) (A : Option Addr) (c : Nat) (lt : List S39) (htk : TkOk lt) (a : Nat) (b : Nat) (ok : Nat → Prop) (W : World) (k w wd : Int) (v : Value) (l : List S27) (N : Nat) (kd : Int) (hkd : 1 ≤ kd ∧ kd ≤ 255) (hP : PS W g A c lt a) (hN : NV b ok W k w wd v l N) (hb : b ≤ W.heap.size) (hg : ∀ q, ok q → g < q) (hf : ∀ q, W.heap.size ≤ q → ok q) (hs : N + (lt.length - a) ≤ 999998) :
  Calls Try.prog 60 #[.pointer (some ⟨g, 0, none⟩), .agg #[.int .u8 k, .int .u8 w, .int .i64 wd, v], .int .u8 kd] W fun e W' => ∃ a', a ≤ a' ∧ a' ≤ lt.length ∧ Ext g A c lt b ok W k w v.ownBlock a' (N + (a' - a) + 1) e W' := by
 obtain ⟨AA, cc, rfl, hlc, hC⟩ := Kd.zaQ hN.row; have HF := zaa.mk hf; have HG := zaa.mk hg; have HGW := zaa.mk hP.lt; have HTO := zaa.mk htk; have hle := hP.le; have HLE := zaa.mk hle; clear hf hg hC htk; have hu := Try.underlying27; go_enter Try.func60, Try.ntmps60
 go_upto_region 1 with (fail)
 obtain ⟨X, hX⟩ : ∃ X, X = (W.alloc (nodeO k w wd (.slice AA l.length cc))).alloc (nodeO 0 0 0 (.slice none 0 0)) := ⟨_, rfl⟩; obtain ⟨hst, hrx⟩ := ST.start2 hP hN hX; have HS0 := zaa.mk hst; have HRX := zaa.mk hrx; change Code.wp Try.prog _ _ _ ((W.alloc (nodeO k w wd (.slice AA l.length cc))).alloc (nodeO 0 0 0 (.slice none 0 0)))
 rw [← hX]; clear hst hrx hX hP hN; have HKC := zaa.mk (za9 g A c lt a X HS0.out.ps); obtain ⟨q, hq⟩ : ∃ q, q = cu lt a := ⟨_, rfl⟩; rw [← hq] at HKC; have HQ := zaa.mk hq; clear hq; by_cases hqk : q = kd
 ·have d0 : (q == kd) = true := by simp [hqk]
  have hh := cu_lt (l := lt) (a := a) (by rw [← HQ.out, hqk]; omega)
  have HH := zaa.mk hh; clear hh hqk; go_upto_region 2 with (go_at_call 34; refine HKC.out.mono ?_; rintro e w2 ⟨rfl, hb2⟩; have HST0 := zaa.mk (HS0.out.below hb2); clear hb2 HS0 HKC)
  obtain ⟨x0, x1, x2, x3⟩ := HST0.out.cells; go_wp2_with (go_at_call 50; refine (zbw g A c lt HTO.out a b (okm ok W 2) w2 k w wd _ l N HST0.out.ps HST0.out.nv (by have := HST0.out.sz; omega) (okm_g HG.out) (okm_f HF.out HST0.out.sz) HH.out (by have := HH.out; omega)).mono ?_; rintro e w3 ⟨wd1, u, l1, rfl, h1, h2, h3, h4⟩; obtain ⟨A1, c1, rfl, _, _⟩ := Kd.zaQ h2.row; have HRET := zaa.mk (HST0.out.ret (rx := W.heap.size + 1) HGW.out (by omega) (by omega) h1 h2 h3 h4); have r0 := ((HST0.out.var HGW.out h3 (q := W.heap.size + 1) (by omega) (by omega)).trans (HST0.out.keep (W.heap.size + 1) (by omega) (by omega) (by omega))).trans HRX.out; have HRB := zaa.mk r0; have f0 := zab r0 0; have f1 := zab r0 1; have f2 := zab r0 2; have f3 := zab r0 3; obtain ⟨⟨d0, d1, d2, d3⟩, dl⟩ := zaD r0; clear h1 h2 h3 h4 r0 x0 x1 x2 x3)
  refine bodyPost_ret (zaR (r := .cell 6 27) rfl (.cell (W.heap.size + 1) 27 _ (0, 0) _ rfl (zbe HRB.out) Try.underlying27 rfl (by kernel_rfl) .nil)) rfl ?_
  have h2 := HRET.out; refine ⟨hd lt a + 1, by have := hd_ge lt a; omega, by have := HH.out; omega, ?_⟩
  obtain ⟨wd9, u9, l9, e1, e2, e3, e4, e5⟩ := h2; exact ⟨wd9, u9, l9, e1, e2, e3.more (by omega), e4, e5⟩
 ·have d0 : (q == kd) = false := by simp [hqk]
  go_upto_region 3 with (go_at_call 34; refine HKC.out.mono ?_; rintro e w2 ⟨rfl, hb2⟩; have HST0 := zaa.mk (HS0.out.below hb2); clear hb2 HS0 HKC)
  obtain ⟨x0, x1, x2, x3⟩ := HST0.out.cells; go_wp2_with (go_at_call 71; refine (zb3 g A c lt a b (okm ok W 2) w2 k w wd _ l N kd (by omega) HST0.out.ps HST0.out.nv (by have := HST0.out.sz; omega) (okm_g HG.out) (okm_f HF.out HST0.out.sz) (by omega)).mono ?_; rintro e w3 ⟨wd1, u, l1, rfl, h1, h2, h3, h4⟩; obtain ⟨A1, c1, rfl, _, _⟩ := Kd.zaQ h2.row; have HRET := zaa.mk (HST0.out.ret (rx := W.heap.size + 1) HGW.out (by omega) (by omega) h1 h2 h3 h4); have r0 := ((HST0.out.var HGW.out h3 (q := W.heap.size + 1) (by omega) (by omega)).trans (HST0.out.keep (W.heap.size + 1) (by omega) (by omega) (by omega))).trans HRX.out; have HRB := zaa.mk r0; have f0 := zab r0 0; have f1 := zab r0 1; have f2 := zab r0 2; have f3 := zab r0 3; obtain ⟨⟨d0, d1, d2, d3⟩, dl⟩ := zaD r0; clear h1 h2 h3 h4 r0 x0 x1 x2 x3)
  refine bodyPost_ret (zaR (r := .cell 6 27) rfl (.cell (W.heap.size + 1) 27 _ (0, 0) _ rfl (zbe HRB.out) Try.underlying27 rfl (by kernel_rfl) .nil)) rfl ?_
  have h2 := HRET.out; refine ⟨a, Nat.le_refl _, HLE.out, ?_⟩
  obtain ⟨wd9, u9, l9, e1, e2, e3, e4, e5⟩ := h2; exact ⟨wd9, u9, l9, e1, e2, e3.more (by omega), e4, e5⟩
theorem doneX {g : Nat} {A : Option Addr} {c : Nat} {lt : List S39} {b : Nat} {ok : Nat → Prop} {W X0 : World} {m : Nat} {r : Option Nat} {bx : Nat} {X : World} {k w wd : Int} {v : Value} {l : List S27} {N a rx : Nat} (h : ST g A c lt b ok W X0 m r bx X k w wd v l N a) (hgW : g < W.heap.size) (h1 : W.heap.size ≤ rx) (h2 : rx < W.heap.size + m) :
  PS (putN X rx k w wd v) g A c lt a ∧ NV b ok (putN X rx k w wd v) k w wd v l N ∧ Fr g r W (putN X rx k w wd v) :=
 ⟨h.ps.keep (fun q hq => zbH (by omega)), (h.nv.step (fun q hq _ => zbH (by have := hq.2; omega))).mono (fun q hq => hq.1), putN_fr h.fr h1⟩
set_option maxHeartbeats 8000000 in
set_option maxRecDepth 100000 in
theorem taken_calls (g : Nat) (A : Option Addr) (c : Nat) (lt : List S39) (a : Nat) (b : Nat) (ok : Nat → Prop) (W : World) (k w wd : Int) (v : Value) (l : List S27) (N : Nat) (kd : Int) (hP : PS W g A c lt a) (hN : NV b ok W k w wd v l N) (hg : ∀ q, ok q → g < q) :
  Calls Try.prog 47 #[.pointer (some ⟨g, 0, none⟩), .agg #[.int .u8 k, .int .u8 w, .int .i64 wd, v], .int .u8 kd] W fun e W' => e = .returned (.tuple #[.agg #[.int .u8 k, .int .u8 w, .int .i64 wd, v], .bool false]) ∧ PS W' g A c lt a ∧ NV b ok W' k w wd v l N ∧ Fr g v.ownBlock W W' := by
 obtain ⟨AA, cc, rfl, hlc, hC⟩ := Kd.zaQ hN.row; have HG := zaa.mk hg; have HGW := zaa.mk hP.lt; clear hg hC; have hu := Try.underlying27; go_enter Try.func47, Try.ntmps47
 go_upto_region 1 with (fail)
 obtain ⟨X, hX⟩ : ∃ X, X = (W.alloc (nodeO k w wd (.slice AA l.length cc))).alloc (nodeO 0 0 0 (.slice none 0 0)) := ⟨_, rfl⟩; obtain ⟨hst, hrx⟩ := ST.start2 hP hN hX; have HS0 := zaa.mk hst; have HRX := zaa.mk hrx; change Code.wp Try.prog _ _ _ ((W.alloc (nodeO k w wd (.slice AA l.length cc))).alloc (nodeO 0 0 0 (.slice none 0 0)))
 rw [← hX]; clear hst hrx hX hP hN; obtain ⟨sk, pt, hblk⟩ := HS0.out.ps.blk; have gf := zab hblk 3; have gl := zaM hblk; have g1 := zae hblk 3; simp at g1; have HS1 := zaa.mk (fun z => HS0.out.asked z HGW.out HG.out HGW.out)
 clear hblk; go_upto_region 2 with (fail)
 obtain ⟨X1, hX1⟩ : ∃ X1, X1 = X.setCell ⟨g, 3, none⟩ (.int .i64 (wrap64 (sk + 1))) := ⟨_, rfl⟩; have HS2 := zaa.mk (HS1.out (wrap64 (sk + 1))); rw [← hX1] at HS2 ⊢; clear hX1 HS1 gf gl g1 HS0; have HH := zaa.mk (hand_calls g A c lt a X1 HS2.out.ps); obtain ⟨h, hh⟩ : ∃ h, h = hd lt a := ⟨_, rfl⟩; rw [← hh] at HH; clear hh; go_wp2_with (go_at_call 45; refine HH.out.mono ?_; rintro e w2 ⟨rfl, hb2⟩; have HS3 := zaa.mk (HS2.out.below hb2); clear hb2 HS2 HH)
 go_loopg [9] 0 (fun kq v9 w' => v9 = .int .i64 0 ∧ zaa (kq = 0) ∧ zaa (ST g A c lt b ok W X 2 (Value.slice AA l.length cc).ownBlock W.heap.size w' k w wd (.slice AA l.length cc) l N a))
 case atStart => exact ⟨rfl, ⟨rfl⟩, HS3⟩
 case round =>
  obtain ⟨rfl, _, HST⟩ := hrel; have hrb := (HST.out.keep (W.heap.size + 1) (by omega) (by omega) (by omega)).trans HRX.out
  have HRB := zaa.mk hrb; have f0 := zab hrb 0; have f1 := zab hrb 1; have f2 := zab hrb 2; have f3 := zab hrb 3; obtain ⟨⟨d0, d1, d2, d3⟩, dl⟩ := zaD hrb; obtain ⟨x0, x1, x2, x3⟩ := HST.out.cells; obtain ⟨sk2, pt2, hblk⟩ := HST.out.ps.blk; have g2 := zae hblk 2; simp at g2; clear hrb hblk; go_wp2
  have hgl := HGW.out; refine bodyPost_ret (results_ct rfl _ _ (W.heap.size + 1) 27 _ (0, 0) _ rfl (zbe HRB.out) Try.underlying27 rfl (by kernel_rfl)) rfl ?_
  obtain ⟨e2, e3, e4⟩ := doneX HST.out hgl (rx := W.heap.size + 1) (by omega) (by omega)
  exact ⟨rfl, e2, e3, e4⟩
structure S2 (g : Nat) (A : Option Addr) (c : Nat) (lt : List S39) (ok okx : Nat → Prop) (W : World) (r : Option Nat) (X : World) (a : Nat) : Prop where
 ps : PS X g A c lt a
 fr : Fr g r W X
 gW : g < W.heap.size
 hg : ∀ q, ok q → g < q
 sub : ∀ q, okx q → ok q
 fresh : ∀ q, X.heap.size ≤ q → okx q
structure VI (okx : Nat → Prop) (W X : World) (p : Nat) : Prop where
 at_ : ∃ z0 z1 z2 z3 : Value, X.heap[p]? = some (.cells #[z0, z1, z2, z3] 27 (0, 0))
 out : ¬ okx p
 new : W.heap.size ≤ p
structure NI (b : Nat) (okx : Nat → Prop) (W : World) (r : Option Nat) (X : World) (p : Nat) (k w wd : Int) (v : Value) (l : List S27) (N : Nat) : Prop where
 box : X.heap[p]? = some (nodeO k w wd v)
 nv : NV b okx X k w wd v l N
 near : Near W r v
 out : ¬ okx p
 new : W.heap.size ≤ p
section
variable {g : Nat} {A : Option Addr} {c : Nat} {lt : List S39} {b : Nat} {ok okx : Nat → Prop} {W : World} {r : Option Nat} {X Y : World} {p q : Nat} {k w wd : Int} {v : Value} {l : List S27} {N a : Nat}
theorem S2.below (h : S2 g A c lt ok okx W r X a) (hb : Below X.heap.size X Y) : S2 g A c lt ok okx W r Y a :=
 ⟨h.ps.below hb, h.fr.trans (r' := none) (Fr.of_below hb) (fun q hq => by cases hq), h.gW, h.hg, h.sub, fun q hq => h.fresh q (Nat.le_trans hb.size hq)⟩
theorem VI.zaB (h : VI okx W X p) : p < X.heap.size := by
 obtain ⟨_, _, _, _, h⟩ := h.at_; exact zaM h
theorem VI.same (h : VI okx W X p) (he : Y.heap[p]? = X.heap[p]?) : VI okx W Y p := by
 obtain ⟨z0, z1, z2, z3, h1⟩ := h.at_; exact ⟨⟨z0, z1, z2, z3, he.trans h1⟩, h.out, h.new⟩
theorem VI.below (h : VI okx W X p) (hb : Below X.heap.size X Y) : VI okx W Y p := h.same (hb.block p h.zaB)
theorem NI.zaB (h : NI b okx W r X p k w wd v l N) : p < X.heap.size := zaM h.box
theorem NI.below (h : NI b okx W r X p k w wd v l N) (hb : Below X.heap.size X Y) : NI b okx W r Y p k w wd v l N :=
 ⟨zaU h.box hb, h.nv.step (fun q _ hq => hb.block q hq), h.near, h.out, h.new⟩
theorem NI.vi (h : NI b okx W r X p k w wd v l N) : VI okx W X p := ⟨⟨_, _, _, _, h.box⟩, h.out, h.new⟩
theorem NI.cells (h : NI b okx W r X p k w wd v l N) : X.cell? ⟨p, 0, none⟩ = some (.int .u8 k) ∧ X.cell? ⟨p, 1, none⟩ = some (.int .u8 w) ∧ X.cell? ⟨p, 2, none⟩ = some (.int .i64 wd) ∧ X.cell? ⟨p, 3, none⟩ = some v := (zaD h.box).1
theorem S2.var {r' : Option Nat} {w2 : World} (h : S2 g A c lt ok okx W r X a) (hv : VI okx W X p) (hF : Fr g r' X w2) (hr : ∀ q, r' = some q → okx q) : w2.heap[p]? = X.heap[p]? :=
 hF.block p hv.zaB (by have := hv.new; have := h.gW; omega) (fun e => hv.out (hr p e.symm))
theorem near_row (h : Near W r v) : ∀ q, v.ownBlock = some q → r = some q ∨ W.heap.size ≤ q := fun q hq => by
 rcases h with e | ⟨q', e, h'⟩
 ·exact .inl (by rw [← e, hq])
 ·rw [hq] at e; injection e with e; exact .inr (by omega)
theorem zaK {u : Value} (h : Near W r v) (hs : W.heap.size ≤ X.heap.size) (hu : Near X v.ownBlock u) : Near W r u := by
 rcases hu with e | ⟨q, e, hq⟩
 ·rcases h with e2 | ⟨q, e2, hq⟩
  ·exact .inl (e.trans e2)
  ·exact .inr ⟨q, e.trans e2, hq⟩
 ·exact .inr ⟨q, e, by omega⟩
theorem S2.ext {w2 : World} {a2 : Nat} (h : S2 g A c lt ok okx W r X a) (hn : NI b okx W r X p k w wd v l N) (hP : PS w2 g A c lt a2) (hF : Fr g v.ownBlock X w2) : S2 g A c lt ok okx W r w2 a2 :=
 ⟨hP, h.fr.trans hF (near_row hn.near), h.gW, h.hg, h.sub, fun q hq => h.fresh q (Nat.le_trans hF.size hq)⟩
theorem S2.put {k w wd : Int} {u : Value} (h : S2 g A c lt ok okx W r X a) (hv : VI okx W X p) : S2 g A c lt ok okx W r (putN X p k w wd u) a :=
 ⟨h.ps.keep (fun q hq => zbH (by have := hv.new; have := h.gW; omega)), putN_fr h.fr hv.new, h.gW, h.hg, h.sub, fun q hq => h.fresh q (by rw [putN_size] at hq; exact hq)⟩
theorem NI.put {k w wd : Int} {u : Value} {l : List S27} {N : Nat} (hv : VI okx W X p) (hN : NV b okx X k w wd u l N) (hu : Near W r u) : NI b okx W r (putN X p k w wd u) p k w wd u l N := by
 obtain ⟨z0, z1, z2, z3, h1⟩ := hv.at_; exact ⟨zbe h1, hN.step (fun q hq _ => zbH (fun e => hv.out (by rw [← e]; exact hq))), hu, hv.out, hv.new⟩
theorem VI.put {k w wd : Int} {u : Value} (hv : VI okx W X q) (hne : q ≠ p) : VI okx W (putN X p k w wd u) q := hv.same (zbH hne)
theorem NI.kept {N : Nat} (h : NI b okx W r X p k w wd v l N) (he : Y.heap[p]? = X.heap[p]?) (hN : NV b okx Y k w wd v l N) : NI b okx W r Y p k w wd v l N := ⟨he.trans h.box, hN, h.near, h.out, h.new⟩
theorem NI.more {N N' : Nat} (h : NI b okx W r X p k w wd v l N) (hN : N ≤ N') : NI b okx W r X p k w wd v l N' := ⟨h.box, h.nv.more hN, h.near, h.out, h.new⟩
theorem S2.ret {w2 : World} {a2 : Nat} (h : S2 g A c lt ok okx W r X a) (hP : PS w2 g A c lt a2) (hF : Fr g none X w2) : S2 g A c lt ok okx W r w2 a2 :=
 ⟨hP, h.fr.trans hF (fun q hq => by cases hq), h.gW, h.hg, h.sub, fun q hq => h.fresh q (Nat.le_trans hF.size hq)⟩
theorem NI.ret {w2 : World} (h : S2 g A c lt ok okx W r X a) (hn : NI b okx W r X p k w wd v l N) (hF : Fr g none X w2) : NI b okx W r w2 p k w wd v l N :=
 hn.kept (h.var hn.vi hF (fun q hq => by cases hq)) (hn.nv.step (fun q hq hl => hF.block q hl (by have := h.hg q (h.sub q hq); omega) (by simp)))
theorem VI.ret {w2 : World} (h : S2 g A c lt ok okx W r X a) (hv : VI okx W X p) (hF : Fr g none X w2) : VI okx W w2 p := hv.same (h.var hv hF (fun q hq => by cases hq))
theorem S2.addps {w2 : World} (h : S2 g A c lt ok okx W r X a) (hn : NI b okx W r X p k w wd v l N) (hg2 : X.grownBy w2 v.ownBlock) : PS w2 g A c lt a :=
 h.ps.keep (fun q hq => hg2.block q (by have := h.ps.lt; omega) (fun e => by have := h.hg q (h.sub q (hn.nv.row.1 q e.symm)); omega))
theorem S2.done {wd : Int} {u : Value} {l : List S27} {N : Nat} (h : S2 g A c lt ok okx W r X a) (hv : VI okx W X p) (hN : NV b okx X k w wd u l N) (hu : Near W r u) : Ext g A c lt b ok W k w r a N (.returned (.agg #[.int .u8 k, .int .u8 w, .int .i64 wd, u])) (putN X p k w wd u) :=
 ⟨wd, u, l, rfl, (h.put hv).ps, ((NI.put (r := r) hv hN hu).nv).mono h.sub, (h.put hv).fr, hu⟩
theorem S2.start {X : World} (hP : PS W g A c lt a) (hN : NV b ok W k w wd v l N) (hg : ∀ q, ok q → g < q) (hf : ∀ q, W.heap.size ≤ q → ok q) (hX : X = (W.alloc (nodeO k w wd v)).alloc (nodeO 0 0 0 (.slice none 0 0))) :
  S2 g A c lt ok (okm ok W 2) W v.ownBlock X a ∧ NI b (okm ok W 2) W v.ownBlock X W.heap.size k w wd v l N ∧ VI (okm ok W 2) W X (W.heap.size + 1) := by
 obtain ⟨hs2, hb2, k0, k1⟩ := alloc2 hX; exact ⟨⟨hP.below hb2, Fr.of_below hb2, hP.lt, hg, fun q hq => hq.1, fun q hq => ⟨hf q (by omega), .inr (by omega)⟩⟩,
  ⟨k0, hN.enter 2 hb2, .inl rfl, fun h => by have := h.2; omega, Nat.le_refl _⟩, ⟨⟨_, _, _, _, k1⟩, fun h => by have := h.2; omega, by omega⟩⟩
def oky (okx : Nat → Prop) (p : Nat) (q : Nat) : Prop := okx q ∧ q ≠ p
theorem S2.newv {o : Obj} (h : S2 g A c lt ok okx W r X a) : S2 g A c lt ok (oky okx X.heap.size) W r (X.alloc o) a :=
 have hb : Below X.heap.size X (X.alloc o) := zad (Below.refl _ _) _
 ⟨h.ps.below hb, (h.below hb).fr, h.gW, h.hg, fun q hq => h.sub q hq.1, fun q hq => ⟨h.fresh q (by have := zbU X o; omega), by have := zbU X o; omega⟩⟩
theorem VI.newv {o : Obj} (h : VI okx W X p) : VI (oky okx X.heap.size) W (X.alloc o) p :=
 have h2 := h.below (Y := X.alloc o) (zad (Below.refl _ _) _)
 ⟨h2.at_, fun hq => h.out hq.1, h.new⟩
theorem NI.newv {o : Obj} (h : NI b okx W r X p k w wd v l N) : NI b (oky okx X.heap.size) W r (X.alloc o) p k w wd v l N :=
 have hb : Below X.heap.size X (X.alloc o) := zad (Below.refl _ _) _
 ⟨(h.below hb).box, (h.nv.bound.mono (ok' := oky okx X.heap.size) (fun q hq => ⟨hq.1, by omega⟩)).step (fun q hq hl => hb.block q hl), h.near, fun hq => h.out hq.1, h.new⟩
theorem NI.new_ {k w wd : Int} {u : Value} {l : List S27} {N : Nat} (hs : W.heap.size ≤ X.heap.size) (hN : NV b okx X k w wd u l N) (hu : Near W r u) : NI b (oky okx X.heap.size) W r (X.alloc (nodeO k w wd u)) X.heap.size k w wd u l N :=
 have hb : Below X.heap.size X (X.alloc (nodeO k w wd u)) := zad (Below.refl _ _) _
 ⟨heap_alloc_new _ _, (hN.bound.mono (ok' := oky okx X.heap.size) (fun q hq => ⟨hq.1, by omega⟩)).step (fun q hq hl => hb.block q hl), hu, fun hq => hq.2 rfl, hs⟩
end
def Ret (g : Nat) (A : Option Addr) (c : Nat) (lt : List S39) (W : World) (a N : Nat) (e : Ending) (W' : World) : Prop :=
 ∃ (k w wd : Int) (u : Value) (l : List S27), e = .returned (.agg #[.int .u8 k, .int .u8 w, .int .i64 wd, u]) ∧ PS W' g A c lt a ∧ NV W.heap.size (fun q => W.heap.size ≤ q) W' k w wd u l N ∧ Fr g none W W'
def CBegun (g : Nat) (A : Option Addr) (c : Nat) (lt : List S39) (a : Nat) : Prop := ∀ W, PS W g A c lt a → hd lt a < lt.length → Calls Try.prog 64 #[.pointer (some ⟨g, 0, none⟩)] W fun e W' => ∃ a', a < a' ∧ a' ≤ lt.length ∧ Ret g A c lt W a' (40 * (a' - a) - 10) e W'
def CLevel (g : Nat) (A : Option Addr) (c : Nat) (lt : List S39) (a : Nat) (j : Int) : Prop := ∀ W, PS W g A c lt a → hd lt a < lt.length → Calls Try.prog 72 #[.pointer (some ⟨g, 0, none⟩), .int .i64 j] W fun e W' => ∃ a', a < a' ∧ a' ≤ lt.length ∧ Ret g A c lt W a' (40 * (a' - a) - 20) e W'
def CExpr (g : Nat) (A : Option Addr) (c : Nat) (lt : List S39) (a : Nat) : Prop := ∀ (b : Nat) (ok : Nat → Prop) (W : World) (k w wd : Int) (v : Value) (l : List S27) (N : Nat), PS W g A c lt a → NV b ok W k w wd v l N → b ≤ W.heap.size → (∀ q, ok q → g < q) → (∀ q, W.heap.size ≤ q → ok q) → N + 40 * (lt.length - a) + 10 ≤ 900000 →
  Calls Try.prog 61 #[.pointer (some ⟨g, 0, none⟩), .agg #[.int .u8 k, .int .u8 w, .int .i64 wd, v]] W fun e W' => ∃ a', a ≤ a' ∧ a' ≤ lt.length ∧ Ext g A c lt b ok W k w v.ownBlock a' (N + 40 * (a' - a) + 1) e W'
def CInner (g : Nat) (A : Option Addr) (c : Nat) (lt : List S39) (a : Nat) : Prop := ∀ (b : Nat) (ok : Nat → Prop) (W : World) (k w wd : Int) (v : Value) (l : List S27) (N : Nat), PS W g A c lt a → NV b ok W k w wd v l N → b ≤ W.heap.size → (∀ q, ok q → g < q) → (∀ q, W.heap.size ≤ q → ok q) → cu lt a ≠ 0 → N + 40 * (lt.length - a) + 10 ≤ 900000 →
  Calls Try.prog 35 #[.pointer (some ⟨g, 0, none⟩), .agg #[.int .u8 k, .int .u8 w, .int .i64 wd, v]] W fun e W' => ∃ a', a < a' ∧ a' ≤ lt.length ∧ Ext g A c lt b ok W k w v.ownBlock a' (N + 40 * (a' - a)) e W'
theorem S2.start1 {g : Nat} {A : Option Addr} {c : Nat} {lt : List S39} {W X : World} {a : Nat} (hP : PS W g A c lt a) (hX : X = W.alloc (nodeO 0 0 0 (.slice none 0 0))) :
  S2 g A c lt (fun q => W.heap.size ≤ q) (oky (fun q => W.heap.size ≤ q) W.heap.size) W none X a ∧ VI (oky (fun q => W.heap.size ≤ q) W.heap.size) W X W.heap.size := by
 have hb : Below W.heap.size W X := by rw [hX]; exact zad (Below.refl _ _) _
 have hs : X.heap.size = W.heap.size + 1 := by rw [hX]; exact zbU _ _
 exact ⟨⟨hP.below hb, Fr.of_below hb, hP.lt, fun q hq => by have := hP.lt; omega, fun q hq => hq.1, fun q hq => ⟨by omega, by omega⟩⟩, ⟨⟨_, _, _, _, by rw [hX]; exact heap_alloc_new _ _⟩, fun h => h.2 rfl, Nat.le_refl _⟩⟩
def CUnary (g : Nat) (A : Option Addr) (c : Nat) (lt : List S39) (a : Nat) : Prop := ∀ W, PS W g A c lt a → hd lt a < lt.length → Calls Try.prog 78 #[.pointer (some ⟨g, 0, none⟩)] W fun e W' => ∃ a', a < a' ∧ a' ≤ lt.length ∧ Ret g A c lt W a' (40 * (a' - a) - 20) e W'
def CArgs (g : Nat) (A : Option Addr) (c : Nat) (lt : List S39) (a : Nat) : Prop := ∀ W, PS W g A c lt a → hd lt a < lt.length → Calls Try.prog 81 #[.pointer (some ⟨g, 0, none⟩)] W fun e W' => ∃ a', a < a' ∧ a' ≤ lt.length ∧ Ret g A c lt W a' (40 * (a' - a) - 20) e W'
def CPrimary (g : Nat) (A : Option Addr) (c : Nat) (lt : List S39) (a : Nat) : Prop := ∀ W, PS W g A c lt a → hd lt a < lt.length → Calls Try.prog 80 #[.pointer (some ⟨g, 0, none⟩)] W fun e W' => ∃ a', a < a' ∧ a' ≤ lt.length ∧ Ret g A c lt W a' (40 * (a' - a) - 20) e W'
def CStatement (g : Nat) (A : Option Addr) (c : Nat) (lt : List S39) (a : Nat) : Prop := ∀ W, PS W g A c lt a → (∃ r, zaE.f (cu lt a) = some r ∧ r ≠ 0) → Calls Try.prog 49 #[.pointer (some ⟨g, 0, none⟩)] W fun e W' => ∃ a', a < a' ∧ a' ≤ lt.length ∧ Ret g A c lt W a' (40 * (a' - a) - 10) e W'
theorem kid_nv {b : Nat} {okx : Nat → Prop} {X w2 : World} {k w wd : Int} {v : Value} {l : List S27} {N : Nat} (hV : NV X.heap.size (fun q => X.heap.size ≤ q) w2 k w wd v l N) (hb : b ≤ X.heap.size) (hf : ∀ q, X.heap.size ≤ q → okx q) {r : Option Nat} (hr : ∀ q, r = some q → q < X.heap.size) : NV b (fun q => okx q ∧ some q ≠ r) w2 k w wd v l N := by
 refine NV.mono ⟨?_, hV.kb, hV.wb, hV.lb, hV.wd, hV.size⟩ (fun q hq => ⟨hf q hq, fun e => by have := hr q e.symm; omega⟩)
 obtain ⟨h1, rows, h2, h3, h4⟩ := hV.row; exact ⟨h1, rows, h2, Kd.zbK h3 hb, h4⟩
theorem expr_tot (x : Int) : ∃ r, zaF.f x = some r := by
 unfold zaF.f
 repeat' split
 all_goals exact ⟨_, rfl⟩
theorem expr_ne {x : Int} (h : zaF.f x = some true) : x ≠ 0 := by
 intro e
 subst e; simp [zaF.f] at h
set_option maxHeartbeats 8000000 in
set_option maxRecDepth 100000 in
theorem expression_calls (g : Nat) (A : Option Addr) (c : Nat) (lt : List S39) (htk : TkOk lt) (a : Nat) (hbeg : CLevel g A c lt (hd lt a) 1) (b : Nat) (ok : Nat → Prop) (W : World) (k w wd : Int) (v : Value) (l : List S27) (N : Nat) (hP : PS W g A c lt a) (hN : NV b ok W k w wd v l N) (hb : b ≤ W.heap.size) (hg : ∀ q, ok q → g < q) (hf : ∀ q, W.heap.size ≤ q → ok q) (hs : N + 40 * (lt.length - a) + 10 ≤ 900000) :
  Calls Try.prog 61 #[.pointer (some ⟨g, 0, none⟩), .agg #[.int .u8 k, .int .u8 w, .int .i64 wd, v]] W fun e W' => ∃ a', a ≤ a' ∧ a' ≤ lt.length ∧ (zaF.f (cu lt a) = some true → a < a') ∧ Ext g A c lt b ok W k w v.ownBlock a' (if a' = a then N + 1 else N + 40 * (a' - a) - 19) e W' := by
 obtain ⟨AA, cc, rfl, hlc, hC⟩ := Kd.zaQ hN.row; have HTO := zaa.mk htk; have HBEG := zaa.mk hbeg; have hle := hP.le; have hge := hd_ge lt a; have HHL := zaa.mk (And.intro hge (hd_le hle)); clear htk hC hbeg; have hu := Try.underlying27; go_enter Try.func61, Try.ntmps61
 go_upto_region 1 with (fail)
 obtain ⟨X, hX⟩ : ∃ X, X = (W.alloc (nodeO k w wd (.slice AA l.length cc))).alloc (nodeO 0 0 0 (.slice none 0 0)) := ⟨_, rfl⟩; obtain ⟨h2, hn, hv⟩ := S2.start hP hN hg hf hX; change Code.wp Try.prog _ _ _ ((W.alloc (nodeO k w wd (.slice AA l.length cc))).alloc (nodeO 0 0 0 (.slice none 0 0)))
 rw [← hX]; generalize okm ok W 2 = okx at h2 hn hv
 have H2 := zaa.mk h2; have HN := zaa.mk hn; have HV := zaa.mk hv; have HBW := zaa.mk hb; clear h2 hn hv hX hP hN hg hf; have HKC := zaa.mk (za9 g A c lt a X H2.out.ps); obtain ⟨q, hq⟩ : ∃ q, q = cu lt a := ⟨_, rfl⟩; rw [← hq] at HKC; have HQ := zaa.mk hq; clear hq; obtain ⟨rr, hrr⟩ := expr_tot q; have HRR := zaa.mk hrr; clear hrr; cases rr with
 | false =>
  go_upto_region 2 with (first | (go_at_call 34; refine HKC.out.mono ?_; rintro e w1 ⟨rfl, hb2⟩; have I1 := zaa.mk (H2.out.below hb2); have IN1 := zaa.mk (HN.out.below hb2); have IV1 := zaa.mk (HV.out.below hb2); clear hb2 H2 HN HV HKC) | (go_at_call 59; refine (zaF.calls _ _ _ HRR.out).mono ?_; rintro e w2 ⟨rfl, hd2⟩; have hb2 := hd2.below; clear hd2; have I2 := zaa.mk (I1.out.below hb2); have IN := zaa.mk (IN1.out.below hb2); have IV := zaa.mk (IV1.out.below hb2); clear hb2 I1 IN1 IV1))
  obtain ⟨x0, x1, x2, x3⟩ := IN.out.cells; go_wp2_with (go_at_call 71; refine (zb3 g A c lt a b okx w2 k w wd _ l N 60 (by omega) I2.out.ps IN.out.nv (Nat.le_trans HBW.out I2.out.fr.size) (fun q hq => I2.out.hg q (I2.out.sub q hq)) I2.out.fresh (by omega)).mono ?_; rintro e w3 ⟨wd1, u1, l1, rfl, h1, h2, h3, h4⟩; obtain ⟨A1, c1, rfl, _, _⟩ := Kd.zaQ h2.row; have hv_ := IV.out.same (I2.out.var IV.out h3 (fun q hq => IN.out.nv.row.1 q hq)); have HEND := zaa.mk ((I2.out.ext IN.out h1 h3).done hv_ h2 (zaK IN.out.near I2.out.fr.size h4)); obtain ⟨z0, z1, z2, z3, hz_⟩ := hv_.at_; have HZ := zaa.mk hz_; have f0 := zab hz_ 0; have f1 := zab hz_ 1; have f2 := zab hz_ 2; have f3 := zab hz_ 3; obtain ⟨⟨d0, d1, d2, d3⟩, dl⟩ := zaD hz_; clear h1 h2 h3 h4 hv_ hz_ x0 x1 x2 x3)
  refine bodyPost_ret (zaR (r := .cell 4 27) rfl (.cell (W.heap.size + 1) 27 _ (0, 0) _ rfl (zbe HZ.out) Try.underlying27 rfl (by kernel_rfl) .nil)) rfl ?_
  refine ⟨a, Nat.le_refl _, by omega, fun h => (by rw [← HQ.out, HRR.out] at h; cases h), ?_⟩
  rw [if_pos rfl]; exact HEND.out
 | true =>
  have HLT := zaa.mk (cu_lt (l := lt) (a := a) (by rw [← HQ.out]; exact expr_ne HRR.out))
  go_upto_region 3 with (first | (go_at_call 34; refine HKC.out.mono ?_; rintro e w1 ⟨rfl, hb2⟩; have I1 := zaa.mk (H2.out.below hb2); have IN1 := zaa.mk (HN.out.below hb2); have IV1 := zaa.mk (HV.out.below hb2); clear hb2 H2 HN HV HKC) | (go_at_call 59; refine (zaF.calls _ _ _ HRR.out).mono ?_; rintro e w2 ⟨rfl, hd2⟩; have hb2 := hd2.below; clear hd2; have I2 := zaa.mk (I1.out.below hb2); have IN := zaa.mk (IN1.out.below hb2); have IV := zaa.mk (IV1.out.below hb2); clear hb2 I1 IN1 IV1))
  obtain ⟨x0, x1, x2, x3⟩ := IN.out.cells; go_upto_region 4 with (go_at_call 36; refine (zb1 g A c lt HTO.out a b okx w2 k w wd _ l N I2.out.ps IN.out.nv (Nat.le_trans HBW.out I2.out.fr.size) (fun q hq => I2.out.hg q (I2.out.sub q hq)) I2.out.fresh (by have := HHL.out; omega)).mono ?_; rintro e w3 ⟨wd1, u1, l1, rfl, h1, h2, h3, h4⟩; obtain ⟨A1, c1, rfl, _, _⟩ := Kd.zaQ h2.row; have hp_ := IN.out.vi.same (I2.out.var IN.out.vi h3 (fun q hq => IN.out.nv.row.1 q hq)); have J2 := zaa.mk ((I2.out.ext IN.out h1 h3).put (k := k) (w := w) (wd := wd1) (u := .slice A1 l1.length c1) hp_); have JN := zaa.mk (NI.put hp_ h2 (zaK IN.out.near I2.out.fr.size h4)); have hv_ := IV.out.same (I2.out.var IV.out h3 (fun q hq => IN.out.nv.row.1 q hq)); have JV := zaa.mk (hv_.put (p := W.heap.size) (k := k) (w := w) (wd := wd1) (u := .slice A1 l1.length c1) (by omega)); clear hv_; obtain ⟨z0, z1, z2, z3, hz_⟩ := hp_.at_; have f0 := zab hz_ 0; have f1 := zab hz_ 1; have f2 := zab hz_ 2; have f3 := zab hz_ 3; obtain ⟨⟨d0, d1, d2, d3⟩, dl⟩ := zaD hz_; clear h1 h2 h3 h4 hp_ hz_ x0 x1 x2 x3 I2 IN IV)
  obtain ⟨X1, hX1⟩ : ∃ X1, X1 = putN w3 W.heap.size k w wd1 (.slice A1 l1.length c1) := ⟨_, rfl⟩; rw [← hX1] at J2 JN JV; simp only [putN] at hX1; rw [← hX1]; clear hX1 f0 f1 f2 f3 d0 d1 d2 d3 dl; obtain ⟨x0, x1, x2, x3⟩ := JN.out.cells; obtain ⟨N1, hN1⟩ : ∃ N1, N1 = N + (hd lt a - a) := ⟨_, rfl⟩; rw [← hN1] at JN; have HN1 := zaa.mk hN1; clear hN1; go_upto_region 5 with (go_at_call 47; refine (taken_calls g A c lt (hd lt a) b okx X1 k w wd1 _ l1 N1 60 J2.out.ps JN.out.nv (fun q hq => J2.out.hg q (J2.out.sub q hq))).mono ?_; rintro e w4 ⟨rfl, h1, h2, h3⟩; have K2 := zaa.mk (J2.out.ext JN.out h1 h3); have KN := zaa.mk (JN.out.kept (J2.out.var JN.out.vi h3 (fun q hq => JN.out.nv.row.1 q hq)) h2); have KV := zaa.mk (JV.out.same (J2.out.var JV.out h3 (fun q hq => JN.out.nv.row.1 q hq))); clear h1 h2 h3 x0 x1 x2 x3 J2 JN JV)
  have n_ := zaa.mk (K2.out.newv (o := nodeO k w wd1 (.slice A1 l1.length c1))); clear K2; have K2 := n_; clear n_; have n_ := zaa.mk (KN.out.newv (o := nodeO k w wd1 (.slice A1 l1.length c1))); clear KN; have KN := n_; clear n_; have n_ := zaa.mk (KV.out.newv (o := nodeO k w wd1 (.slice A1 l1.length c1))); clear KV; have KV := n_; clear n_; obtain ⟨Y, hX1⟩ : ∃ X1, X1 = w4.alloc (nodeO k w wd1 (.slice A1 l1.length c1)) := ⟨_, rfl⟩; rw [← hX1] at K2 KN KV; change Code.wp Try.prog _ _ _ (w4.alloc (nodeO k w wd1 (.slice A1 l1.length c1)))
  rw [← hX1]; clear hX1; obtain ⟨x0, x1, x2, x3⟩ := KN.out.cells; have HSZ := zaa.mk (show N1 + 40 * (lt.length - hd lt a) ≤ 899990 by have := HN1.out; have := HHL.out; omega)
  go_upto_region 7 with (fail)
  clear x0 x1 x2 x3; have D2 := zaa.mk (K2.out.below (Y := Y.drew) (Below.refl _ _).drew); have DN := zaa.mk (KN.out.below (Y := Y.drew) (Below.refl _ _).drew); have DV := zaa.mk (KV.out.below (Y := Y.drew) (Below.refl _ _).drew); have HS0 := zaa.mk DN.out.cells; clear K2 KN KV; refine wp_region_noPanic (zbx [0, 1, 2, 3, 4, 5] (fun W' => W'.cell? ⟨W.heap.size, 0, none⟩ = some (.int .u8 k) ∧ W'.cell? ⟨W.heap.size, 1, none⟩ = some (.int .u8 w) ∧ W'.cell? ⟨W.heap.size, 2, none⟩ = some (.int .i64 wd1) ∧ W'.cell? ⟨W.heap.size, 3, none⟩ = some (.slice A1 l1.length c1)) (by kernel_rfl) ?_)
  refine zar 0 (v := ?_) HS0.out ?_ ?_
  rotate_left
  ·(intro W' hW'; obtain ⟨s0, s1, s2, s3⟩ := hW'; go_simp; try rfl)
  simp only [Act.put, zav]; refine zar 1 (v := ?_) HS0.out ?_ ?_
  rotate_left
  ·(intro W' hW'; obtain ⟨s0, s1, s2, s3⟩ := hW'; go_simp; try rfl)
  simp only [Act.put, zav]; refine zar 2 (v := ?_) HS0.out ?_ ?_
  rotate_left
  ·(intro W' hW'; obtain ⟨s0, s1, s2, s3⟩ := hW'; go_simp; try rfl)
  simp only [Act.put, zav]; refine zaX (i := 3) rfl (by kernel_rfl) (fun K hK => ?_)
  go_simp
  refine (HBEG.out Y.drew D2.out.ps (by rw [hd_hd]; exact HLT.out)).mono ?_
  rintro e w5 ⟨a9, hlo, hhi, k9, w9, wd9, u9, l9, rfl, p1, p2, p3⟩
  obtain ⟨kA, kc, rfl, _, _⟩ := Kd.zaQ p2.row; have E2 := zaa.mk (D2.out.ret p1 p3); have EN := zaa.mk (NI.ret D2.out DN.out p3); have EV := zaa.mk (VI.ret D2.out DV.out p3); have HP2 := zaa.mk p2; have HS1 := zaa.mk EN.out.cells; have HSW := zaa.mk p3.size; clear p1 p2 p3; refine hK.out _ _ (fun _ => HS1.out) (fun _ => ?_)
  clear hK K; try simp only [Act.put, zav]
  refine zaX (i := 4) rfl (by kernel_rfl) (fun K hK => ?_)
  go_simp
  refine (zb5 Y.drew.heap.size (fun q => Y.drew.heap.size ≤ q) w5 60 0 0 (.slice none 0 0) [] 1 _ _ _ _ _ (40 * (a9 - hd lt a) - 20) (NV.leaf (by omega) (by omega) (by omega) (Nat.le_refl _)) (show Y.drew.heap.size ≤ w5.heap.size from HSW.out) (fun q hq => Nat.le_trans HSW.out hq) (HP2.out.mono (fun q hq => ⟨hq, by simp [Value.ownBlock]⟩)) (by have := HSZ.out; omega)).mono ?_
  rintro e w7 ⟨wd7, u7, l7, rfl, h1, h2, h3⟩
  obtain ⟨A7, c7, rfl, _, _⟩ := Kd.zaQ h1.row; have hfr : Fr g none w5 w7 := Fr.za1 h2; have G2 := zaa.mk (E2.out.ret (E2.out.ps.keep (fun q hq => h2.block q (by have := E2.out.ps.lt; omega) (by simp [Value.ownBlock]))) hfr)
  have GN := zaa.mk (NI.ret E2.out EN.out hfr); have GV := zaa.mk (VI.ret E2.out EV.out hfr); have HKID := zaa.mk (kid_nv (b := b) (okx := (oky okx w4.heap.size)) h1 (Nat.le_trans HBW.out D2.out.fr.size) D2.out.fresh (fun q hq => Kd.N_lt DN.out.nv.row q hq))
  have HS3 := zaa.mk GN.out.cells; clear h1 h2 h3 hfr E2 EN EV; have E2 := G2; have EN := GN; have EV := GV; clear G2 GN GV; refine hK.out _ _ (fun _ => HS3.out) (fun _ => ?_)
  clear hK K; try simp only [Act.put, zav]
  refine zaX (i := 5) rfl (by kernel_rfl) (fun K hK => ?_)
  go_simp
  refine (zb5 b (oky okx w4.heap.size) w7 k w wd1 _ l1 N1 _ _ _ _ _ _ EN.out.nv (Nat.le_trans HBW.out E2.out.fr.size) E2.out.fresh HKID.out (by have := HSZ.out; omega)).mono ?_
  rintro e w6 ⟨wd6, u6, l6, rfl, h1, h2, h3⟩
  obtain ⟨A6, c6, rfl, _, _⟩ := Kd.zaQ h1.row; have F2 := zaa.mk (E2.out.ext EN.out (E2.out.addps EN.out h2) (Fr.za1 h2)); have hv_ := EV.out.same (E2.out.var EV.out (Fr.za1 h2) (fun q hq => EN.out.nv.row.1 q hq))
  have FN := zaa.mk (EN.out.vi.same (E2.out.var EN.out.vi (Fr.za1 h2) (fun q hq => EN.out.nv.row.1 q hq)))
  have HS2 := zaa.mk ((zaD ((E2.out.var EN.out.vi (Fr.za1 h2) (fun q hq => EN.out.nv.row.1 q hq)).trans EN.out.box)).1)
  have HEND := zaa.mk (F2.out.done hv_ h1 (zaK EN.out.near E2.out.fr.size h3)); obtain ⟨z0, z1, z2, z3, hz_⟩ := hv_.at_; have HZ := zaa.mk hz_; have f0 := zab hz_ 0; have f1 := zab hz_ 1; have f2 := zab hz_ 2; have f3 := zab hz_ 3; obtain ⟨⟨d0, d1, d2, d3⟩, dl⟩ := zaD hz_
  clear h1 h2 h3 hv_ hz_; refine hK.out _ _ (fun _ => HS2.out) (fun _ => ?_)
  clear hK K; try simp only [Act.put, zav]
  refine zaX (i := 6) rfl (by kernel_rfl) (fun K hK => ?_)
  go_simp
  refine hK.out _ _ (fun h => Bool.noConfusion (show false = true from h)) (fun _ => ?_)
  clear hK K; try simp only [Act.put, zav]
  refine zbd (by kernel_rfl) (NoPanic.normal ?_) _
  clear d0 d1 d2 d3 dl f0 f1 f2 f3; go_wp2
  refine bodyPost_ret (zaR (r := .cell 4 27) rfl (.cell (W.heap.size + 1) 27 _ (0, 0) _ rfl (zbe HZ.out) Try.underlying27 rfl (by kernel_rfl) .nil)) rfl ?_
  refine ⟨a9, by have := HHL.out; omega, hhi, fun _ => (by have := HHL.out; omega), ?_⟩
  rw [if_neg (by have := HHL.out; omega)]
  obtain ⟨wd8, u8, l8, e1, e2, e3, e4, e5⟩ := HEND.out; exact ⟨wd8, u8, l8, e1, e2, e3.more (by have := HN1.out; have := HHL.out; omega), e4, e5⟩
theorem stmt_tot (x : Int) : ∃ r, zaE.f x = some r := by
 obtain ⟨r, hr⟩ := expr_tot x; unfold zaE.f
 rw [hr]; cases r <;> repeat' split
 all_goals first | exact ⟨_, rfl⟩ | simp
theorem stmt_ne {x r : Int} (h : zaE.f x = some r) (hr : r ≠ 0) : x ≠ 0 := by
 intro e
 subst e; simp [zaE.f, zaF.f] at h; exact hr h.symm
theorem S2.startv {g : Nat} {A : Option Addr} {c : Nat} {lt : List S39} {V : World} {a : Nat} {o : Obj} (hP : PS V g A c lt a) : S2 g A c lt (fun q => V.heap.size ≤ q) (oky (fun q => V.heap.size ≤ q) V.heap.size) V none (V.alloc o) a := by
 have hb : Below V.heap.size V (V.alloc o) := zad (Below.refl _ _) _; have hs : (V.alloc o).heap.size = V.heap.size + 1 := zbU _ _; exact ⟨hP.below hb, Fr.of_below hb, hP.lt, fun q hq => by have := hP.lt; omega, fun q hq => hq.1, fun q hq => ⟨by omega, by omega⟩⟩
set_option maxHeartbeats 8000000 in
set_option maxRecDepth 100000 in
theorem inner_calls (g : Nat) (A : Option Addr) (c : Nat) (lt : List S39) (htk : TkOk lt) (a : Nat) (hst : CStatement g A c lt (hd lt a)) (b : Nat) (ok : Nat → Prop) (W : World) (k w wd : Int) (v : Value) (l : List S27) (N : Nat) (hP : PS W g A c lt a) (hN : NV b ok W k w wd v l N) (hb : b ≤ W.heap.size) (hg : ∀ q, ok q → g < q) (hf : ∀ q, W.heap.size ≤ q → ok q) (hcu : cu lt a ≠ 0) (hs : N + 40 * (lt.length - a) + 10 ≤ 900000) :
  Calls Try.prog 35 #[.pointer (some ⟨g, 0, none⟩), .agg #[.int .u8 k, .int .u8 w, .int .i64 wd, v]] W fun e W' => ∃ a', a < a' ∧ a' ≤ lt.length ∧ Ext g A c lt b ok W k w v.ownBlock a' (N + 40 * (a' - a)) e W' := by
 obtain ⟨AA, cc, rfl, hlc, hC⟩ := Kd.zaQ hN.row; have HTO := zaa.mk htk; have HST := zaa.mk hst; have hle := hP.le; have hge := hd_ge lt a; have HLT := zaa.mk (cu_lt (l := lt) (a := a) hcu); have HLEN := zaa.mk hP.len; have HHL := zaa.mk (And.intro hge (hd_le hle)); clear htk hC hst hcu; have hu := Try.underlying27; go_enter Try.func35, Try.ntmps35
 go_upto_region 1 with (fail)
 obtain ⟨X, hX⟩ : ∃ X, X = (W.alloc (nodeO k w wd (.slice AA l.length cc))).alloc (nodeO 0 0 0 (.slice none 0 0)) := ⟨_, rfl⟩; obtain ⟨h2, hn, hv⟩ := S2.start hP hN hg hf hX; change Code.wp Try.prog _ _ _ ((W.alloc (nodeO k w wd (.slice AA l.length cc))).alloc (nodeO 0 0 0 (.slice none 0 0)))
 rw [← hX]; generalize okm ok W 2 = okx at h2 hn hv
 have I2 := zaa.mk h2; have IN := zaa.mk hn; have IV := zaa.mk hv; have HBW := zaa.mk hb; clear h2 hn hv hX hP hN hg hf; obtain ⟨x0, x1, x2, x3⟩ := IN.out.cells; go_upto_region 2 with (go_at_call 36; refine (zb1 g A c lt HTO.out a b okx X k w wd _ l N I2.out.ps IN.out.nv (Nat.le_trans HBW.out I2.out.fr.size) (fun q hq => I2.out.hg q (I2.out.sub q hq)) I2.out.fresh (by have := HHL.out; omega)).mono ?_; rintro e w3 ⟨wd1, u1, l1, rfl, h1, h2, h3, h4⟩; obtain ⟨A1, c1, rfl, _, _⟩ := Kd.zaQ h2.row; have hp_ := IN.out.vi.same (I2.out.var IN.out.vi h3 (fun q hq => IN.out.nv.row.1 q hq)); have J2 := zaa.mk ((I2.out.ext IN.out h1 h3).put (k := k) (w := w) (wd := wd1) (u := .slice A1 l1.length c1) hp_); have JN := zaa.mk (NI.put hp_ h2 (zaK IN.out.near I2.out.fr.size h4)); have hv_ := IV.out.same (I2.out.var IV.out h3 (fun q hq => IN.out.nv.row.1 q hq)); have JV := zaa.mk (hv_.put (p := W.heap.size) (k := k) (w := w) (wd := wd1) (u := .slice A1 l1.length c1) (by omega)); clear hv_; obtain ⟨z0, z1, z2, z3, hz_⟩ := hp_.at_; have f0 := zab hz_ 0; have f1 := zab hz_ 1; have f2 := zab hz_ 2; have f3 := zab hz_ 3; obtain ⟨⟨d0, d1, d2, d3⟩, dl⟩ := zaD hz_; clear h1 h2 h3 h4 hp_ hz_ x0 x1 x2 x3 I2 IN IV)
 obtain ⟨X1, hX1⟩ : ∃ X1, X1 = putN w3 W.heap.size k w wd1 (.slice A1 l1.length c1) := ⟨_, rfl⟩; rw [← hX1] at J2 JN JV; simp only [putN] at hX1; rw [← hX1]; clear hX1 f0 f1 f2 f3 d0 d1 d2 d3 dl; obtain ⟨N1, hN1⟩ : ∃ N1, N1 = N + (hd lt a - a) := ⟨_, rfl⟩; rw [← hN1] at JN; have HN1 := zaa.mk hN1; clear hN1; have HSZ := zaa.mk (show N1 + 40 * (lt.length - hd lt a) ≤ 899990 by have := HN1.out; have := HHL.out; omega)
 have HKC := zaa.mk (za9 g A c lt (hd lt a) X1 J2.out.ps); have HCU := zaa.mk (cu_hd lt a); obtain ⟨a1, ha1⟩ : ∃ a1, a1 = hd lt a := ⟨_, rfl⟩; have HHD := zaa.mk (show hd lt a1 = a1 by rw [ha1]; exact hd_hd lt a)
 rw [← ha1] at J2 HKC HST HLT HHL HN1 HSZ HCU; clear ha1; obtain ⟨q, hq⟩ : ∃ q, q = cu lt a1 := ⟨_, rfl⟩; rw [← hq] at HKC; have HQ := zaa.mk hq; clear hq; obtain ⟨rr, hrr⟩ := stmt_tot q; have HRR := zaa.mk hrr; clear hrr; by_cases hr0 : rr = 0
 case neg =>
  have d0 : (rr != 0) = true := by simp [hr0]
  have HR0 := zaa.mk (show ∃ r, zaE.f (cu lt a1) = some r ∧ r ≠ 0 from ⟨rr, by rw [← HQ.out]; exact HRR.out, hr0⟩)
  clear hr0; go_upto_region 3 with (first | (go_at_call 34; refine HKC.out.mono ?_; rintro e w1 ⟨rfl, hb2⟩; have I1 := zaa.mk (J2.out.below hb2); have IN1 := zaa.mk (JN.out.below hb2); have IV1 := zaa.mk (JV.out.below hb2); clear hb2 J2 JN JV HKC) | (go_at_call 46; refine (zaE.calls _ _ _ HRR.out).mono ?_; rintro e w2 ⟨rfl, hd2⟩; have hb2 := hd2.below; clear hd2; have I2 := zaa.mk (I1.out.below hb2); have IN := zaa.mk (IN1.out.below hb2); have IV := zaa.mk (IV1.out.below hb2); clear hb2 I1 IN1 IV1))
  obtain ⟨x0, x1, x2, x3⟩ := IN.out.cells; go_upto_region 4 with (go_at_call 47; refine (taken_calls g A c lt a1 b okx w2 k w wd1 _ l1 N1 59 I2.out.ps IN.out.nv (fun q hq => I2.out.hg q (I2.out.sub q hq))).mono ?_; rintro e w4 ⟨rfl, h1, h2, h3⟩; have K2 := zaa.mk (I2.out.ext IN.out h1 h3); have KN := zaa.mk (IN.out.kept (I2.out.var IN.out.vi h3 (fun q hq => IN.out.nv.row.1 q hq)) h2); have KV := zaa.mk (IV.out.same (I2.out.var IV.out h3 (fun q hq => IN.out.nv.row.1 q hq))); clear h1 h2 h3 x0 x1 x2 x3 I2 IN IV)
  have n_ := zaa.mk (K2.out.newv (o := nodeO k w wd1 (.slice A1 l1.length c1))); clear K2; have K2 := n_; clear n_; have n_ := zaa.mk (KN.out.newv (o := nodeO k w wd1 (.slice A1 l1.length c1))); clear KN; have KN := n_; clear n_; have n_ := zaa.mk (KV.out.newv (o := nodeO k w wd1 (.slice A1 l1.length c1))); clear KV; have KV := n_; clear n_; obtain ⟨Y, hX1⟩ : ∃ X1, X1 = w4.alloc (nodeO k w wd1 (.slice A1 l1.length c1)) := ⟨_, rfl⟩; rw [← hX1] at K2 KN KV; change Code.wp Try.prog _ _ _ (w4.alloc (nodeO k w wd1 (.slice A1 l1.length c1)))
  rw [← hX1]; clear hX1; obtain ⟨x0, x1, x2, x3⟩ := KN.out.cells; go_upto_region 6 with (fail)
  clear x0 x1 x2 x3; have D2 := zaa.mk (K2.out.below (Y := Y.drew) (Below.refl _ _).drew); have DN := zaa.mk (KN.out.below (Y := Y.drew) (Below.refl _ _).drew); have DV := zaa.mk (KV.out.below (Y := Y.drew) (Below.refl _ _).drew); have HS0 := zaa.mk DN.out.cells; clear K2 KN KV; refine wp_region_noPanic (zbx [0, 1, 2, 3] (fun W' => W'.cell? ⟨W.heap.size, 0, none⟩ = some (.int .u8 k) ∧ W'.cell? ⟨W.heap.size, 1, none⟩ = some (.int .u8 w) ∧ W'.cell? ⟨W.heap.size, 2, none⟩ = some (.int .i64 wd1) ∧ W'.cell? ⟨W.heap.size, 3, none⟩ = some (.slice A1 l1.length c1)) (by kernel_rfl) ?_)
  refine zar 0 (v := ?_) HS0.out ?_ ?_
  rotate_left
  ·(intro W' hW'; obtain ⟨s0, s1, s2, s3⟩ := hW'; go_simp; try rfl)
  simp only [Act.put, zav]; refine zar 1 (v := ?_) HS0.out ?_ ?_
  rotate_left
  ·(intro W' hW'; obtain ⟨s0, s1, s2, s3⟩ := hW'; go_simp; try rfl)
  simp only [Act.put, zav]; refine zaX (i := 2) rfl (by kernel_rfl) (fun K hK => ?_)
  go_simp
  refine (HST.out Y.drew D2.out.ps HR0.out).mono ?_
  rintro e w5 ⟨a9, hlo, hhi, k9, w9, wd9, u9, l9, rfl, p1, p2, p3⟩
  obtain ⟨kA, kc, rfl, _, _⟩ := Kd.zaQ p2.row; have E2 := zaa.mk (D2.out.ret p1 p3); have EN := zaa.mk (NI.ret D2.out DN.out p3); have EV := zaa.mk (VI.ret D2.out DV.out p3); have HKID := zaa.mk (kid_nv (b := b) (okx := (oky okx w4.heap.size)) p2 (Nat.le_trans HBW.out D2.out.fr.size) D2.out.fresh (fun q hq => Kd.N_lt DN.out.nv.row q hq))
  have HS1 := zaa.mk EN.out.cells; clear p1 p2 p3; refine hK.out _ _ (fun _ => HS1.out) (fun _ => ?_)
  clear hK K; try simp only [Act.put, zav]
  refine zaX (i := 3) rfl (by kernel_rfl) (fun K hK => ?_)
  go_simp
  refine (zb5 b (oky okx w4.heap.size) w5 k w wd1 _ l1 N1 _ _ _ _ _ _ EN.out.nv (Nat.le_trans HBW.out E2.out.fr.size) E2.out.fresh HKID.out (by have := HSZ.out; omega)).mono ?_
  rintro e w6 ⟨wd6, u6, l6, rfl, h1, h2, h3⟩
  obtain ⟨A6, c6, rfl, _, _⟩ := Kd.zaQ h1.row; have F2 := zaa.mk (E2.out.ext EN.out (E2.out.addps EN.out h2) (Fr.za1 h2)); have hv_ := EV.out.same (E2.out.var EV.out (Fr.za1 h2) (fun q hq => EN.out.nv.row.1 q hq))
  have FN := zaa.mk (EN.out.vi.same (E2.out.var EN.out.vi (Fr.za1 h2) (fun q hq => EN.out.nv.row.1 q hq)))
  have HS2 := zaa.mk ((zaD ((E2.out.var EN.out.vi (Fr.za1 h2) (fun q hq => EN.out.nv.row.1 q hq)).trans EN.out.box)).1)
  have HEND := zaa.mk (F2.out.done hv_ h1 (zaK EN.out.near E2.out.fr.size h3)); obtain ⟨z0, z1, z2, z3, hz_⟩ := hv_.at_; have HZ := zaa.mk hz_; have f0 := zab hz_ 0; have f1 := zab hz_ 1; have f2 := zab hz_ 2; have f3 := zab hz_ 3; obtain ⟨⟨d0, d1, d2, d3⟩, dl⟩ := zaD hz_
  clear h1 h2 h3 hv_ hz_; refine hK.out _ _ (fun _ => HS2.out) (fun _ => ?_)
  clear hK K; try simp only [Act.put, zav]
  refine zaX (i := 4) rfl (by kernel_rfl) (fun K hK => ?_)
  go_simp
  refine hK.out _ _ (fun h => Bool.noConfusion (show false = true from h)) (fun _ => ?_)
  clear hK K; try simp only [Act.put, zav]
  refine zbd (by kernel_rfl) (NoPanic.normal ?_) _
  clear d0 d1 d2 d3 dl f0 f1 f2 f3; go_wp2
  refine bodyPost_ret (zaR (r := .cell 4 27) rfl (.cell (W.heap.size + 1) 27 _ (0, 0) _ rfl (zbe HZ.out) Try.underlying27 rfl (by kernel_rfl) .nil)) rfl ?_
  refine ⟨a9, by have := HHL.out; omega, hhi, ?_⟩
  obtain ⟨wd8, u8, l8, e1, e2, e3, e4, e5⟩ := HEND.out; exact ⟨wd8, u8, l8, e1, e2, e3.more (by have := HN1.out; have := HHL.out; omega), e4, e5⟩
 case pos =>
  have d0 : (rr != 0) = false := by simp [hr0]
  clear hr0; go_upto_region 7 with (first | (go_at_call 34; refine HKC.out.mono ?_; rintro e w1 ⟨rfl, hb2⟩; have I1 := zaa.mk (J2.out.below hb2); have IN1 := zaa.mk (JN.out.below hb2); have IV1 := zaa.mk (JV.out.below hb2); clear hb2 J2 JN JV HKC) | (go_at_call 46; refine (zaE.calls _ _ _ HRR.out).mono ?_; rintro e w3 ⟨rfl, hd2⟩; have hb2 := hd2.below; clear hd2; have K2 := zaa.mk (I1.out.below hb2); have KN := zaa.mk (IN1.out.below hb2); have KV := zaa.mk (IV1.out.below hb2); clear hb2 I1 IN1 IV1))
  go_upto_region 8 with (fail)
  have M2_ := zaa.mk (S2.startv (o := nodeO 68 0 0 (.slice none 0 0)) K2.out.ps); have MN_ := zaa.mk (NI.new_ (b := w3.heap.size) (okx := fun q => w3.heap.size ≤ q) (W := w3) (r := none) (X := w3) (N := 1) (Nat.le_refl _) (NV.leaf (k := 68) (w := 0) (wd := 0) (by omega) (by omega) (by omega) (Nat.le_refl _)) (.inl rfl))
  obtain ⟨Z, hZ⟩ : ∃ Z, Z = w3.alloc (nodeO 68 0 0 (.slice none 0 0)) := ⟨_, rfl⟩; rw [← hZ] at M2_ MN_; change Code.wp Try.prog _ _ _ (w3.alloc (nodeO 68 0 0 (.slice none 0 0)))
  rw [← hZ]; clear hZ; go_loopg [] (lt.length - a1) (fun kq w' => ∃ (ai : Nat) (wdi : Int) (vi : Value) (li : List S27), a1 ≤ ai ∧ ai ≤ lt.length ∧ zaa (kq = lt.length - ai) ∧ zaa (hd lt ai < lt.length) ∧ zaa (S2 g A c lt (fun q => w3.heap.size ≤ q) (oky (fun q => w3.heap.size ≤ q) w3.heap.size) w3 none w' ai) ∧ zaa (NI w3.heap.size (oky (fun q => w3.heap.size ≤ q) w3.heap.size) w3 none w' w3.heap.size 68 0 wdi vi li (1 + (ai - a1))))
  case atStart => exact ⟨a1, 0, _, _, Nat.le_refl _, by have := HHL.out; omega, ⟨rfl⟩, ⟨by rw [HHD.out]; exact HLT.out⟩, M2_, ⟨MN_.out.more (by omega)⟩⟩
  case round =>
   obtain ⟨ai, wdi, vi, li, hai, hail, HK, HLI, M2, MN⟩ := hrel; obtain ⟨Ai, ci, rfl, _, _⟩ := Kd.zaQ MN.out.nv.row; have HKC := zaa.mk (za9 g A c lt ai wr M2.out.ps); obtain ⟨q1, hq1⟩ : ∃ q1, q1 = cu lt ai := ⟨_, rfl⟩; rw [← hq1] at HKC; clear hq1; go_upto_region 9 with (go_at_call 34; refine HKC.out.mono ?_; rintro e w7 ⟨rfl, hb2⟩; have O2 := zaa.mk (M2.out.below hb2); have ON := zaa.mk (MN.out.below hb2); clear hb2 M2 MN HKC)
   obtain ⟨x0, x1, x2, x3⟩ := ON.out.cells; go_upto_region 10 with (go_at_call 50; refine (zbw g A c lt HTO.out ai w3.heap.size (oky (fun q => w3.heap.size ≤ q) w3.heap.size) w7 68 0 wdi _ li (1 + (ai - a1)) O2.out.ps ON.out.nv O2.out.fr.size (fun q hq => O2.out.hg q (O2.out.sub q hq)) O2.out.fresh HLI.out (by have := HLEN.out; have := HLI.out; omega)).mono ?_; rintro e w8 ⟨wd4, u4, l4, rfl, h1, h2, h3, h4⟩; obtain ⟨A4, c4, rfl, _, _⟩ := Kd.zaQ h2.row; have hp_ := ON.out.vi.same (O2.out.var ON.out.vi h3 (fun q hq => ON.out.nv.row.1 q hq)); have Q2 := zaa.mk ((O2.out.ext ON.out h1 h3).put (k := 68) (w := 0) (wd := wd4) (u := .slice A4 l4.length c4) hp_); have QN := zaa.mk (NI.put hp_ h2 (zaK ON.out.near O2.out.fr.size h4)); obtain ⟨z0, z1, z2, z3, hz_⟩ := hp_.at_; have f0 := zab hz_ 0; have f1 := zab hz_ 1; have f2 := zab hz_ 2; have f3 := zab hz_ 3; obtain ⟨⟨d0, d1, d2, d3⟩, dl⟩ := zaD hz_; clear h1 h2 h3 h4 hp_ hz_ x0 x1 x2 x3 O2 ON )
   obtain ⟨X4, hX1⟩ : ∃ X1, X1 = putN w8 w3.heap.size 68 0 wd4 (.slice A4 l4.length c4) := ⟨_, rfl⟩; rw [← hX1] at Q2 QN; simp only [putN] at hX1; rw [← hX1]; clear hX1 f0 f1 f2 f3 d0 d1 d2 d3 dl; obtain ⟨aj, haj⟩ : ∃ aj, aj = hd lt ai + 1 := ⟨_, rfl⟩; have hge2 := hd_ge lt ai; have hajl : aj ≤ lt.length := by have := HLI.out; omega
   have haji : ai < aj := by omega
   have n_ := zaa.mk (QN.out.more (N' := 1 + (aj - a1)) (by omega))
   rw [← haj] at Q2; clear QN haj hge2; have QN := n_; clear n_; have HKC := zaa.mk (za9 g A c lt aj X4 Q2.out.ps); obtain ⟨q2, hq2⟩ : ∃ q2, q2 = cu lt aj := ⟨_, rfl⟩; rw [← hq2] at HKC; have HQ2 := zaa.mk hq2; clear hq2; go_upto_region 11 with (go_at_call 34; refine HKC.out.mono ?_; rintro e w9 ⟨rfl, hb2⟩; have S2_ := zaa.mk (Q2.out.below hb2); have SN := zaa.mk (QN.out.below hb2); clear hb2 Q2 QN HKC)
   by_cases c1_ : q1 = 23
   ·have d1_ : (q1 == 23) = true := by simp [c1_]
    clear c1_; have E2 := zaa.mk (K2.out.ret S2_.out.ps S2_.out.fr); have EN := zaa.mk (NI.ret K2.out KN.out S2_.out.fr); have EV := zaa.mk (VI.ret K2.out KV.out S2_.out.fr); have HKID := zaa.mk (kid_nv (b := b) (okx := okx) (SN.out.nv.mono (fun q hq => hq.1)) (Nat.le_trans HBW.out K2.out.fr.size) K2.out.fresh (fun q hq => Kd.N_lt KN.out.nv.row q hq))
    obtain ⟨x0, x1, x2, x3⟩ := SN.out.cells; obtain ⟨y0, y1, y2, y3⟩ := EN.out.cells; clear S2_ SN K2 KN KV; go_wp2_with (go_at_call 48; refine (zb5 b okx _ k w wd1 _ l1 N1 _ _ _ _ _ _ EN.out.nv (Nat.le_trans HBW.out E2.out.fr.size) E2.out.fresh HKID.out (by have := HSZ.out; omega)).mono ?_; rintro e w11 ⟨wd6, u6, l6, rfl, h1, h2, h3⟩; obtain ⟨A6, c6, rfl, _, _⟩ := Kd.zaQ h1.row; have F2 := zaa.mk (E2.out.ext EN.out (E2.out.addps EN.out h2) (Fr.za1 h2)); have hv_ := EV.out.same (E2.out.var EV.out (Fr.za1 h2) (fun q hq => EN.out.nv.row.1 q hq)); have HEND := zaa.mk (F2.out.done hv_ h1 (zaK EN.out.near E2.out.fr.size h3)); obtain ⟨z0, z1, z2, z3, hz_⟩ := hv_.at_; have HZ := zaa.mk hz_; have f0 := zab hz_ 0; have f1 := zab hz_ 1; have f2 := zab hz_ 2; have f3 := zab hz_ 3; obtain ⟨⟨d0, d1, d2, d3⟩, dl⟩ := zaD hz_; clear h1 h2 h3 hv_ hz_ x0 x1 x2 x3 y0 y1 y2 y3)
    refine bodyPost_ret (zaR (r := .cell 4 27) rfl (.cell (W.heap.size + 1) 27 _ (0, 0) _ rfl (zbe HZ.out) Try.underlying27 rfl (by kernel_rfl) .nil)) rfl ?_
    refine ⟨aj, by have := HHL.out; omega, hajl, ?_⟩
    obtain ⟨wd8, u8, l8, e1, e2, e3, e4, e5⟩ := HEND.out; exact ⟨wd8, u8, l8, e1, e2, e3.more (by have := HN1.out; have := HHL.out; omega), e4, e5⟩
   have d1_ : (q1 == 23) = false := by simp [c1_]
   by_cases c2_ : q1 = 25
   ·have d2_ : (q1 == 25) = true := by simp [c2_]
    clear c1_ c2_; have E2 := zaa.mk (K2.out.ret S2_.out.ps S2_.out.fr); have EN := zaa.mk (NI.ret K2.out KN.out S2_.out.fr); have EV := zaa.mk (VI.ret K2.out KV.out S2_.out.fr); have HKID := zaa.mk (kid_nv (b := b) (okx := okx) (SN.out.nv.mono (fun q hq => hq.1)) (Nat.le_trans HBW.out K2.out.fr.size) K2.out.fresh (fun q hq => Kd.N_lt KN.out.nv.row q hq))
    obtain ⟨x0, x1, x2, x3⟩ := SN.out.cells; obtain ⟨y0, y1, y2, y3⟩ := EN.out.cells; clear S2_ SN K2 KN KV; go_wp2_with (go_at_call 48; refine (zb5 b okx _ k w wd1 _ l1 N1 _ _ _ _ _ _ EN.out.nv (Nat.le_trans HBW.out E2.out.fr.size) E2.out.fresh HKID.out (by have := HSZ.out; omega)).mono ?_; rintro e w11 ⟨wd6, u6, l6, rfl, h1, h2, h3⟩; obtain ⟨A6, c6, rfl, _, _⟩ := Kd.zaQ h1.row; have F2 := zaa.mk (E2.out.ext EN.out (E2.out.addps EN.out h2) (Fr.za1 h2)); have hv_ := EV.out.same (E2.out.var EV.out (Fr.za1 h2) (fun q hq => EN.out.nv.row.1 q hq)); have HEND := zaa.mk (F2.out.done hv_ h1 (zaK EN.out.near E2.out.fr.size h3)); obtain ⟨z0, z1, z2, z3, hz_⟩ := hv_.at_; have HZ := zaa.mk hz_; have f0 := zab hz_ 0; have f1 := zab hz_ 1; have f2 := zab hz_ 2; have f3 := zab hz_ 3; obtain ⟨⟨d0, d1, d2, d3⟩, dl⟩ := zaD hz_; clear h1 h2 h3 hv_ hz_ x0 x1 x2 x3 y0 y1 y2 y3)
    refine bodyPost_ret (zaR (r := .cell 4 27) rfl (.cell (W.heap.size + 1) 27 _ (0, 0) _ rfl (zbe HZ.out) Try.underlying27 rfl (by kernel_rfl) .nil)) rfl ?_
    refine ⟨aj, by have := HHL.out; omega, hajl, ?_⟩
    obtain ⟨wd8, u8, l8, e1, e2, e3, e4, e5⟩ := HEND.out; exact ⟨wd8, u8, l8, e1, e2, e3.more (by have := HN1.out; have := HHL.out; omega), e4, e5⟩
   have d2_ : (q1 == 25) = false := by simp [c2_]
   clear c1_ c2_; by_cases c3_ : q2 = 0
   ·have d3_ : (q2 == 0) = true := by simp [c3_]
    clear c3_; have E2 := zaa.mk (K2.out.ret S2_.out.ps S2_.out.fr); have EN := zaa.mk (NI.ret K2.out KN.out S2_.out.fr); have EV := zaa.mk (VI.ret K2.out KV.out S2_.out.fr); have HKID := zaa.mk (kid_nv (b := b) (okx := okx) (SN.out.nv.mono (fun q hq => hq.1)) (Nat.le_trans HBW.out K2.out.fr.size) K2.out.fresh (fun q hq => Kd.N_lt KN.out.nv.row q hq))
    obtain ⟨x0, x1, x2, x3⟩ := SN.out.cells; obtain ⟨y0, y1, y2, y3⟩ := EN.out.cells; clear S2_ SN K2 KN KV; go_wp2_with (go_at_call 48; refine (zb5 b okx _ k w wd1 _ l1 N1 _ _ _ _ _ _ EN.out.nv (Nat.le_trans HBW.out E2.out.fr.size) E2.out.fresh HKID.out (by have := HSZ.out; omega)).mono ?_; rintro e w11 ⟨wd6, u6, l6, rfl, h1, h2, h3⟩; obtain ⟨A6, c6, rfl, _, _⟩ := Kd.zaQ h1.row; have F2 := zaa.mk (E2.out.ext EN.out (E2.out.addps EN.out h2) (Fr.za1 h2)); have hv_ := EV.out.same (E2.out.var EV.out (Fr.za1 h2) (fun q hq => EN.out.nv.row.1 q hq)); have HEND := zaa.mk (F2.out.done hv_ h1 (zaK EN.out.near E2.out.fr.size h3)); obtain ⟨z0, z1, z2, z3, hz_⟩ := hv_.at_; have HZ := zaa.mk hz_; have f0 := zab hz_ 0; have f1 := zab hz_ 1; have f2 := zab hz_ 2; have f3 := zab hz_ 3; obtain ⟨⟨d0, d1, d2, d3⟩, dl⟩ := zaD hz_; clear h1 h2 h3 hv_ hz_ x0 x1 x2 x3 y0 y1 y2 y3)
    refine bodyPost_ret (zaR (r := .cell 4 27) rfl (.cell (W.heap.size + 1) 27 _ (0, 0) _ rfl (zbe HZ.out) Try.underlying27 rfl (by kernel_rfl) .nil)) rfl ?_
    refine ⟨aj, by have := HHL.out; omega, hajl, ?_⟩
    obtain ⟨wd8, u8, l8, e1, e2, e3, e4, e5⟩ := HEND.out; exact ⟨wd8, u8, l8, e1, e2, e3.more (by have := HN1.out; have := HHL.out; omega), e4, e5⟩
   have d3_ : (q2 == 0) = false := by simp [c3_]
   by_cases c4_ : q2 = 23
   ·have d4_ : (q2 == 23) = true := by simp [c4_]
    clear c4_ c3_; have E2 := zaa.mk (K2.out.ret S2_.out.ps S2_.out.fr); have EN := zaa.mk (NI.ret K2.out KN.out S2_.out.fr); have EV := zaa.mk (VI.ret K2.out KV.out S2_.out.fr); have HKID := zaa.mk (kid_nv (b := b) (okx := okx) (SN.out.nv.mono (fun q hq => hq.1)) (Nat.le_trans HBW.out K2.out.fr.size) K2.out.fresh (fun q hq => Kd.N_lt KN.out.nv.row q hq))
    obtain ⟨x0, x1, x2, x3⟩ := SN.out.cells; obtain ⟨y0, y1, y2, y3⟩ := EN.out.cells; clear S2_ SN K2 KN KV; go_wp2_with (go_at_call 48; refine (zb5 b okx _ k w wd1 _ l1 N1 _ _ _ _ _ _ EN.out.nv (Nat.le_trans HBW.out E2.out.fr.size) E2.out.fresh HKID.out (by have := HSZ.out; omega)).mono ?_; rintro e w11 ⟨wd6, u6, l6, rfl, h1, h2, h3⟩; obtain ⟨A6, c6, rfl, _, _⟩ := Kd.zaQ h1.row; have F2 := zaa.mk (E2.out.ext EN.out (E2.out.addps EN.out h2) (Fr.za1 h2)); have hv_ := EV.out.same (E2.out.var EV.out (Fr.za1 h2) (fun q hq => EN.out.nv.row.1 q hq)); have HEND := zaa.mk (F2.out.done hv_ h1 (zaK EN.out.near E2.out.fr.size h3)); obtain ⟨z0, z1, z2, z3, hz_⟩ := hv_.at_; have HZ := zaa.mk hz_; have f0 := zab hz_ 0; have f1 := zab hz_ 1; have f2 := zab hz_ 2; have f3 := zab hz_ 3; obtain ⟨⟨d0, d1, d2, d3⟩, dl⟩ := zaD hz_; clear h1 h2 h3 hv_ hz_ x0 x1 x2 x3 y0 y1 y2 y3)
    refine bodyPost_ret (zaR (r := .cell 4 27) rfl (.cell (W.heap.size + 1) 27 _ (0, 0) _ rfl (zbe HZ.out) Try.underlying27 rfl (by kernel_rfl) .nil)) rfl ?_
    refine ⟨aj, by have := HHL.out; omega, hajl, ?_⟩
    obtain ⟨wd8, u8, l8, e1, e2, e3, e4, e5⟩ := HEND.out; exact ⟨wd8, u8, l8, e1, e2, e3.more (by have := HN1.out; have := HHL.out; omega), e4, e5⟩
   have d4_ : (q2 == 23) = false := by simp [c4_]
   have HC0 := zaa.mk (cu_lt (l := lt) (a := aj) (by rw [← HQ2.out]; exact c3_))
   clear c4_ c3_; obtain ⟨r2, hr2⟩ := stmt_tot q2; have HR2 := zaa.mk hr2; clear hr2; by_cases c5_ : r2 = 0
   ·have d5_ : (r2 != 0) = false := by simp [c5_]
    clear c5_; go_wp2_with (go_at_call 46; refine (zaE.calls _ _ _ HR2.out).mono ?_; rintro e w10 ⟨rfl, hd2⟩; have hb2 := hd2.below; clear hd2; have T2 := zaa.mk (S2_.out.below hb2); have TN := zaa.mk (SN.out.below hb2); clear hb2 S2_ SN)
    go_roundg (lt.length - aj)
    case measure => have := HK.out; omega
    case rel => exact ⟨aj, wd4, _, l4, by omega, hajl, ⟨rfl⟩, HC0, T2, TN⟩
   ·have d5_ : (r2 != 0) = true := by simp [c5_]
    clear c5_; go_upto_region 12 with (go_at_call 46; refine (zaE.calls _ _ _ HR2.out).mono ?_; rintro e w10 ⟨rfl, hd2⟩; have hb2 := hd2.below; clear hd2; have T2 := zaa.mk (S2_.out.below hb2); have TN := zaa.mk (SN.out.below hb2); clear hb2 S2_ SN)
    have E2 := zaa.mk (K2.out.ret T2.out.ps T2.out.fr); have EN := zaa.mk (NI.ret K2.out KN.out T2.out.fr); have EV := zaa.mk (VI.ret K2.out KV.out T2.out.fr); have HKID := zaa.mk (kid_nv (b := b) (okx := okx) (TN.out.nv.mono (fun q hq => hq.1)) (Nat.le_trans HBW.out K2.out.fr.size) K2.out.fresh (fun q hq => Kd.N_lt KN.out.nv.row q hq))
    obtain ⟨x0, x1, x2, x3⟩ := TN.out.cells; obtain ⟨y0, y1, y2, y3⟩ := EN.out.cells; clear T2 TN K2 KN KV; go_wp2_with (go_at_call 48; refine (zb5 b okx _ k w wd1 _ l1 N1 _ _ _ _ _ _ EN.out.nv (Nat.le_trans HBW.out E2.out.fr.size) E2.out.fresh HKID.out (by have := HSZ.out; omega)).mono ?_; rintro e w11 ⟨wd6, u6, l6, rfl, h1, h2, h3⟩; obtain ⟨A6, c6, rfl, _, _⟩ := Kd.zaQ h1.row; have F2 := zaa.mk (E2.out.ext EN.out (E2.out.addps EN.out h2) (Fr.za1 h2)); have hv_ := EV.out.same (E2.out.var EV.out (Fr.za1 h2) (fun q hq => EN.out.nv.row.1 q hq)); have HEND := zaa.mk (F2.out.done hv_ h1 (zaK EN.out.near E2.out.fr.size h3)); obtain ⟨z0, z1, z2, z3, hz_⟩ := hv_.at_; have HZ := zaa.mk hz_; have f0 := zab hz_ 0; have f1 := zab hz_ 1; have f2 := zab hz_ 2; have f3 := zab hz_ 3; obtain ⟨⟨d0, d1, d2, d3⟩, dl⟩ := zaD hz_; clear h1 h2 h3 hv_ hz_ x0 x1 x2 x3 y0 y1 y2 y3)
    refine bodyPost_ret (zaR (r := .cell 4 27) rfl (.cell (W.heap.size + 1) 27 _ (0, 0) _ rfl (zbe HZ.out) Try.underlying27 rfl (by kernel_rfl) .nil)) rfl ?_
    refine ⟨aj, by have := HHL.out; omega, hajl, ?_⟩
    obtain ⟨wd8, u8, l8, e1, e2, e3, e4, e5⟩ := HEND.out; exact ⟨wd8, u8, l8, e1, e2, e3.more (by have := HN1.out; have := HHL.out; omega), e4, e5⟩
set_option maxHeartbeats 8000000 in
set_option maxRecDepth 100000 in
theorem params_calls (g : Nat) (A : Option Addr) (c : Nat) (lt : List S39) (htk : TkOk lt) (a : Nat) (W : World) (hP : PS W g A c lt a) :
  Calls Try.prog 62 #[.pointer (some ⟨g, 0, none⟩)] W fun e W' => ∃ a', a ≤ a' ∧ a' ≤ lt.length ∧ Ret g A c lt W a' (40 * (a' - a) + 3) e W' := by
 have HTO := zaa.mk htk; have HLEN := zaa.mk hP.len; clear htk; have hu := Try.underlying27; go_enter Try.func62, Try.ntmps62
 go_upto_region 1 with (fail)
 obtain ⟨X, hX⟩ : ∃ X, X = W.alloc (nodeO 0 0 0 (.slice none 0 0)) := ⟨_, rfl⟩; obtain ⟨h2, hv⟩ := S2.start1 hP hX; change Code.wp Try.prog _ _ _ (W.alloc (nodeO 0 0 0 (.slice none 0 0)))
 rw [← hX]; generalize oky (fun q => W.heap.size ≤ q) W.heap.size = okx at h2 hv
 have I2 := zaa.mk h2; have IV := zaa.mk hv; clear h2 hv hX hP; go_upto_region 2 with (go_at_call 60; refine (zbC g A c lt HTO.out a W.heap.size okx X 55 0 0 (.slice none 0 0) [] 1 20 (by omega) I2.out.ps (NV.leaf (by omega) (by omega) (by omega) (Nat.le_refl _)) I2.out.fr.size (fun q hq => I2.out.hg q (I2.out.sub q hq)) I2.out.fresh (by have := HLEN.out; omega)).mono ?_; rintro e w3 ⟨a1, hl1a, hl1b, wd1, u1, l1, rfl, h1, h2, h3, h4⟩; obtain ⟨A1, c1, rfl, _, _⟩ := Kd.zaQ h2.row; have hs_ := I2.out.ret h1 h3; have J2 := zaa.mk (hs_.newv (o := nodeO 55 0 wd1 (.slice A1 l1.length c1))); have JN := zaa.mk (NI.new_ (W := W) (r := none) hs_.fr.size h2 (zaK (v := .slice none 0 0) (.inl rfl) I2.out.fr.size h4)); have JV := zaa.mk ((VI.ret I2.out IV.out h3).newv (o := nodeO 55 0 wd1 (.slice A1 l1.length c1))); have HW3_ := zaa.mk (show W.heap.size < w3.heap.size from Nat.lt_of_lt_of_le IV.out.zaB h3.size); clear h1 h2 h3 h4 hs_ I2 IV)
 have HW3 := zaa.mk HW3_.out; clear HW3_; obtain ⟨X1, hX1⟩ : ∃ X1, X1 = w3.alloc (nodeO 55 0 wd1 (.slice A1 l1.length c1)) := ⟨_, rfl⟩; rw [← hX1] at J2 JN JV; change Code.wp Try.prog _ _ _ (w3.alloc (nodeO 55 0 wd1 (.slice A1 l1.length c1)))
 rw [← hX1]; clear hX1; have n_ := zaa.mk (JN.out.more (N' := 40 * (a1 - a) + 2) (by omega))
 clear JN; have JN := n_; clear n_; have HKC := zaa.mk (za9 g A c lt a1 X1 J2.out.ps); obtain ⟨q, hq⟩ : ∃ q, q = cu lt a1 := ⟨_, rfl⟩; rw [← hq] at HKC; have HQ := zaa.mk hq; clear hq; by_cases h6 : q = 6
 case neg =>
  have d6 : (q == 6) = false := by simp [h6]
  clear h6; go_upto_region 7 with (go_at_call 34; refine HKC.out.mono ?_; rintro e w5 ⟨rfl, hb2⟩; have K2 := zaa.mk (J2.out.below hb2); have KN := zaa.mk (JN.out.below hb2); have KV := zaa.mk (JV.out.below hb2); clear hb2 J2 JN JV HKC)
  obtain ⟨x0, x1, x2, x3⟩ := KN.out.cells; go_wp2_with (go_at_call 60; refine (zbC g A c lt HTO.out a1 W.heap.size (oky okx w3.heap.size) w5 55 0 wd1 _ l1 (40 * (a1 - a) + 2) 21 (by omega) K2.out.ps KN.out.nv K2.out.fr.size (fun q hq => K2.out.hg q (K2.out.sub q hq)) K2.out.fresh (by have := HLEN.out; omega)).mono ?_; rintro e w6 ⟨b3, b3a, b3l, wd3, u3, l3, rfl, h1, h2, h3, h4⟩; obtain ⟨A3, c3, rfl, _, _⟩ := Kd.zaQ h2.row; have hv_ := KV.out.same (K2.out.var KV.out h3 (fun q hq => KN.out.nv.row.1 q hq)); have HEND := zaa.mk ((K2.out.ext KN.out h1 h3).done hv_ h2 (zaK KN.out.near K2.out.fr.size h4)); obtain ⟨z0, z1, z2, z3, hz_⟩ := hv_.at_; have HZ := zaa.mk hz_; have f0 := zab hz_ 0; have f1 := zab hz_ 1; have f2 := zab hz_ 2; have f3 := zab hz_ 3; obtain ⟨⟨d0, d1, d2, d3⟩, dl⟩ := zaD hz_; clear h1 h2 h3 h4 hv_ hz_ x0 x1 x2 x3)
  refine bodyPost_ret (zaR (r := .cell 2 27) rfl (.cell (W.heap.size) 27 _ (0, 0) _ rfl (zbe HZ.out) Try.underlying27 rfl (by kernel_rfl) .nil)) rfl ?_
  refine ⟨b3, by omega, b3l, ?_⟩
  obtain ⟨wd8, u8, l8, e1, e2, e3, e4, e5⟩ := HEND.out; exact ⟨_, _, wd8, u8, l8, e1, e2, e3.more (by omega), e4⟩
 case pos =>
  have d6 : (q == 6) = true := by simp [h6]
  have HLT := zaa.mk (cu_lt (l := lt) (a := a1) (by rw [← HQ.out, h6]; omega))
  clear h6; go_upto_region 3 with (go_at_call 34; refine HKC.out.mono ?_; rintro e w5 ⟨rfl, hb2⟩; have K2 := zaa.mk (J2.out.below hb2); have KN := zaa.mk (JN.out.below hb2); have KV := zaa.mk (JV.out.below hb2); clear hb2 J2 JN JV HKC)
  obtain ⟨x0, x1, x2, x3⟩ := KN.out.cells; go_wp2_with (go_at_call 50; refine (zbw g A c lt HTO.out a1 W.heap.size (oky okx w3.heap.size) w5 55 0 wd1 _ l1 (40 * (a1 - a) + 2) K2.out.ps KN.out.nv K2.out.fr.size (fun q hq => K2.out.hg q (K2.out.sub q hq)) K2.out.fresh HLT.out (by have := HLEN.out; have := HLT.out; omega)).mono ?_; rintro e w6 ⟨wd2, u2, l2, rfl, h1, h2, h3, h4⟩; obtain ⟨A2, c2, rfl, _, _⟩ := Kd.zaQ h2.row; have hp_ := KN.out.vi.same (K2.out.var KN.out.vi h3 (fun q hq => KN.out.nv.row.1 q hq)); have L2 := zaa.mk ((K2.out.ext KN.out h1 h3).put (k := 55) (w := 0) (wd := wd2) (u := .slice A2 l2.length c2) hp_); have LN := zaa.mk (NI.put hp_ h2 (zaK KN.out.near K2.out.fr.size h4)); have hv_ := KV.out.same (K2.out.var KV.out h3 (fun q hq => KN.out.nv.row.1 q hq)); have LV := zaa.mk (hv_.put (p := w3.heap.size) (k := 55) (w := 0) (wd := wd2) (u := .slice A2 l2.length c2) (fun e_ => by have := HW3.out; omega)); clear hv_; obtain ⟨z0, z1, z2, z3, hz_⟩ := hp_.at_; have f0 := zab hz_ 0; have f1 := zab hz_ 1; have f2 := zab hz_ 2; have f3 := zab hz_ 3; obtain ⟨⟨d0, d1, d2, d3⟩, dl⟩ := zaD hz_; clear h1 h2 h3 h4 hp_ hz_ x0 x1 x2 x3 K2 KN KV)
  obtain ⟨X2, hX1⟩ : ∃ X1, X1 = putN w6 w3.heap.size 55 0 wd2 (.slice A2 l2.length c2) := ⟨_, rfl⟩; rw [← hX1] at L2 LN LV; simp only [putN] at hX1; rw [← hX1]; clear hX1 f0 f1 f2 f3 d0 d1 d2 d3 dl; obtain ⟨b2, hb2⟩ : ∃ b2, b2 = hd lt a1 + 1 := ⟨_, rfl⟩; have hge1 := hd_ge lt a1; have b2l : b2 ≤ lt.length := by have := HLT.out; omega
  have b2a : a1 < b2 := by omega
  have n0_ := zaa.mk (LN.out.more (N' := 40 * (a1 - a) + 2 + (b2 - a1)) (by omega))
  rw [← hb2] at L2; clear LN hb2 hge1; have LN := n0_; clear n0_; have n_ := zaa.mk (LN.out.more (N' := 40 * (b2 - a) + 2) (by omega))
  clear LN; have LN := n_; clear n_; go_loopg [] (lt.length - b2) (fun kq w' => ∃ (ai : Nat) (wdi : Int) (vi : Value) (li : List S27), a ≤ ai ∧ ai ≤ lt.length ∧ zaa (kq = lt.length - ai) ∧ zaa (S2 g A c lt (fun q => W.heap.size ≤ q) (oky okx w3.heap.size) W none w' ai) ∧ zaa (NI W.heap.size (oky okx w3.heap.size) W none w' w3.heap.size 55 0 wdi vi li (40 * (ai - a) + 2)) ∧ zaa (VI (oky okx w3.heap.size) W w' W.heap.size))
  case atStart => exact ⟨b2, wd2, _, l2, by omega, b2l, ⟨rfl⟩, L2, LN, LV⟩
  case round =>
   obtain ⟨ai, wdi, vi, li, hai, hail, HK, M2, MN, MV⟩ := hrel; obtain ⟨Ai, ci, rfl, _, _⟩ := Kd.zaQ MN.out.nv.row; have HKC := zaa.mk (za9 g A c lt ai wr M2.out.ps); obtain ⟨q2, hq2⟩ : ∃ q2, q2 = cu lt ai := ⟨_, rfl⟩; rw [← hq2] at HKC; have HQ2 := zaa.mk hq2; clear hq2; by_cases h24 : q2 = 24
   ·have d24 : (q2 == 24) = true := by simp [h24]
    have HLI := zaa.mk (cu_lt (l := lt) (a := ai) (by rw [← HQ2.out, h24]; omega))
    clear h24; go_upto_region 5 with (go_at_call 34; refine HKC.out.mono ?_; rintro e w7 ⟨rfl, hb2⟩; have O2 := zaa.mk (M2.out.below hb2); have ON := zaa.mk (MN.out.below hb2); have OV := zaa.mk (MV.out.below hb2); clear hb2 M2 MN MV HKC)
    obtain ⟨x0, x1, x2, x3⟩ := ON.out.cells; go_upto_region 6 with (go_at_call 50; refine (zbw g A c lt HTO.out ai W.heap.size (oky okx w3.heap.size) w7 55 0 wdi _ li (40 * (ai - a) + 2) O2.out.ps ON.out.nv O2.out.fr.size (fun q hq => O2.out.hg q (O2.out.sub q hq)) O2.out.fresh HLI.out (by have := HLEN.out; have := HLI.out; omega)).mono ?_; rintro e w8 ⟨wd4, u4, l4, rfl, h1, h2, h3, h4⟩; obtain ⟨A4, c4, rfl, _, _⟩ := Kd.zaQ h2.row; have hp_ := ON.out.vi.same (O2.out.var ON.out.vi h3 (fun q hq => ON.out.nv.row.1 q hq)); have Q2 := zaa.mk ((O2.out.ext ON.out h1 h3).put (k := 55) (w := 0) (wd := wd4) (u := .slice A4 l4.length c4) hp_); have QN := zaa.mk (NI.put hp_ h2 (zaK ON.out.near O2.out.fr.size h4)); have hv_ := OV.out.same (O2.out.var OV.out h3 (fun q hq => ON.out.nv.row.1 q hq)); have QV := zaa.mk (hv_.put (p := w3.heap.size) (k := 55) (w := 0) (wd := wd4) (u := .slice A4 l4.length c4) (fun e_ => by have := HW3.out; omega)); clear hv_; obtain ⟨z0, z1, z2, z3, hz_⟩ := hp_.at_; have f0 := zab hz_ 0; have f1 := zab hz_ 1; have f2 := zab hz_ 2; have f3 := zab hz_ 3; obtain ⟨⟨d0, d1, d2, d3⟩, dl⟩ := zaD hz_; clear h1 h2 h3 h4 hp_ hz_ x0 x1 x2 x3 O2 ON OV)
    obtain ⟨X4, hX1⟩ : ∃ X1, X1 = putN w8 w3.heap.size 55 0 wd4 (.slice A4 l4.length c4) := ⟨_, rfl⟩; rw [← hX1] at Q2 QN QV; simp only [putN] at hX1; rw [← hX1]; clear hX1 f0 f1 f2 f3 d0 d1 d2 d3 dl; obtain ⟨aj, haj⟩ : ∃ aj, aj = hd lt ai + 1 := ⟨_, rfl⟩; have hge2 := hd_ge lt ai; have hajl : aj ≤ lt.length := by have := HLI.out; omega
    have haji : ai < aj := by omega
    have n_ := zaa.mk (QN.out.more (N' := 40 * (ai - a) + 2 + (aj - ai)) (by omega))
    rw [← haj] at Q2; clear QN haj hge2; have QN := n_; clear n_; obtain ⟨x0, x1, x2, x3⟩ := QN.out.cells; go_wp2_with (go_at_call 60; refine (zbC g A c lt HTO.out aj W.heap.size (oky okx w3.heap.size) X4 55 0 wd4 _ l4 (40 * (ai - a) + 2 + (aj - ai)) 6 (by omega) Q2.out.ps QN.out.nv Q2.out.fr.size (fun q hq => Q2.out.hg q (Q2.out.sub q hq)) Q2.out.fresh (by have := HLEN.out; omega)).mono ?_; rintro e w9 ⟨b5, b5a, b5l, wd5, u5, l5, rfl, h1, h2, h3, h4⟩; obtain ⟨A5, c5, rfl, _, _⟩ := Kd.zaQ h2.row; have hp_ := QN.out.vi.same (Q2.out.var QN.out.vi h3 (fun q hq => QN.out.nv.row.1 q hq)); have R2 := zaa.mk ((Q2.out.ext QN.out h1 h3).put (k := 55) (w := 0) (wd := wd5) (u := .slice A5 l5.length c5) hp_); have RN := zaa.mk (NI.put hp_ h2 (zaK QN.out.near Q2.out.fr.size h4)); have hv_ := QV.out.same (Q2.out.var QV.out h3 (fun q hq => QN.out.nv.row.1 q hq)); have RV := zaa.mk (hv_.put (p := w3.heap.size) (k := 55) (w := 0) (wd := wd5) (u := .slice A5 l5.length c5) (fun e_ => by have := HW3.out; omega)); clear hv_; obtain ⟨z0, z1, z2, z3, hz_⟩ := hp_.at_; have f0 := zab hz_ 0; have f1 := zab hz_ 1; have f2 := zab hz_ 2; have f3 := zab hz_ 3; obtain ⟨⟨d0, d1, d2, d3⟩, dl⟩ := zaD hz_; clear h1 h2 h3 h4 hp_ hz_ x0 x1 x2 x3 Q2 QN QV)
    obtain ⟨X5, hX1⟩ : ∃ X1, X1 = putN w9 w3.heap.size 55 0 wd5 (.slice A5 l5.length c5) := ⟨_, rfl⟩; rw [← hX1] at R2 RN RV; simp only [putN] at hX1; rw [← hX1]; clear hX1 f0 f1 f2 f3 d0 d1 d2 d3 dl; go_roundg (lt.length - b5)
    case measure => have := HK.out; omega
    case rel => exact ⟨b5, wd5, _, l5, by omega, b5l, ⟨rfl⟩, R2, ⟨RN.out.more (by omega)⟩, RV⟩
   ·have d24 : (q2 == 24) = false := by simp [h24]
    clear h24; go_upto_region 7 with (go_at_call 34; refine HKC.out.mono ?_; rintro e w7 ⟨rfl, hb2⟩; have O2 := zaa.mk (M2.out.below hb2); have ON := zaa.mk (MN.out.below hb2); have OV := zaa.mk (MV.out.below hb2); clear hb2 M2 MN MV HKC)
    obtain ⟨x0, x1, x2, x3⟩ := ON.out.cells; go_wp2_with (go_at_call 60; refine (zbC g A c lt HTO.out ai W.heap.size (oky okx w3.heap.size) w7 55 0 wdi _ li (40 * (ai - a) + 2) 21 (by omega) O2.out.ps ON.out.nv O2.out.fr.size (fun q hq => O2.out.hg q (O2.out.sub q hq)) O2.out.fresh (by have := HLEN.out; omega)).mono ?_; rintro e w8 ⟨b3, b3a, b3l, wd3, u3, l3, rfl, h1, h2, h3, h4⟩; obtain ⟨A3, c3, rfl, _, _⟩ := Kd.zaQ h2.row; have hv_ := OV.out.same (O2.out.var OV.out h3 (fun q hq => ON.out.nv.row.1 q hq)); have HEND := zaa.mk ((O2.out.ext ON.out h1 h3).done hv_ h2 (zaK ON.out.near O2.out.fr.size h4)); obtain ⟨z0, z1, z2, z3, hz_⟩ := hv_.at_; have HZ := zaa.mk hz_; have f0 := zab hz_ 0; have f1 := zab hz_ 1; have f2 := zab hz_ 2; have f3 := zab hz_ 3; obtain ⟨⟨d0, d1, d2, d3⟩, dl⟩ := zaD hz_; clear h1 h2 h3 h4 hv_ hz_ x0 x1 x2 x3)
    refine bodyPost_ret (zaR (r := .cell 2 27) rfl (.cell (W.heap.size) 27 _ (0, 0) _ rfl (zbe HZ.out) Try.underlying27 rfl (by kernel_rfl) .nil)) rfl ?_
    refine ⟨b3, by omega, b3l, ?_⟩
    obtain ⟨wd8, u8, l8, e1, e2, e3, e4, e5⟩ := HEND.out; exact ⟨_, _, wd8, u8, l8, e1, e2, e3.more (by omega), e4⟩
theorem nv_new {b : Nat} {okx : Nat → Prop} {X w2 : World} {k w wd : Int} {v : Value} {l : List S27} {N : Nat} (hV : NV X.heap.size (fun q => X.heap.size ≤ q) w2 k w wd v l N) (hb : b ≤ X.heap.size) (hf : ∀ q, X.heap.size ≤ q → okx q) : NV b okx w2 k w wd v l N :=
 (kid_nv (r := none) hV hb hf (fun q hq => by cases hq)).mono (fun q hq => hq.1)
theorem near_new {b' : Nat} {W X w2 : World} {k w wd : Int} {v : Value} {l : List S27} {N : Nat} (hV : NV b' (fun q => X.heap.size ≤ q) w2 k w wd v l N) (hs : W.heap.size ≤ X.heap.size) : Near W none v := by
 cases h : v.ownBlock with
 | none => exact .inl h
 | some q => exact .inr ⟨q, h, Nat.le_trans hs (hV.row.1 q h)⟩
theorem S2.okx {g : Nat} {A : Option Addr} {c : Nat} {lt : List S39} {ok okx okx' : Nat → Prop} {W : World} {r : Option Nat} {X : World} {a : Nat} (h : S2 g A c lt ok okx W r X a) (hs : ∀ q, okx' q → ok q) (hf : ∀ q, X.heap.size ≤ q → okx' q) : S2 g A c lt ok okx' W r X a := ⟨h.ps, h.fr, h.gW, h.hg, hs, hf⟩
theorem NI.okx {b : Nat} {okx okx' : Nat → Prop} {W : World} {r : Option Nat} {X : World} {p : Nat} {k w wd : Int} {v : Value} {l : List S27} {N : Nat} (h : NI b okx W r X p k w wd v l N) (hs : ∀ q, okx q → okx' q) (ho : ¬ okx' p) : NI b okx' W r X p k w wd v l N := ⟨h.box, h.nv.mono hs, h.near, ho, h.new⟩
theorem VI.okx {okx okx' : Nat → Prop} {W X : World} {p : Nat} (h : VI okx W X p) (ho : ¬ okx' p) : VI okx' W X p := ⟨h.at_, ho, h.new⟩
set_option maxHeartbeats 8000000 in
set_option maxRecDepth 100000 in
theorem unary_calls (g : Nat) (A : Option Addr) (c : Nat) (lt : List S39) (htk : TkOk lt) (a : Nat) (hun : ∀ a1, a < a1 → CUnary g A c lt a1) (hpr : CPrimary g A c lt a) (har : ∀ a1, a < a1 → CArgs g A c lt a1) (W : World) (hP : PS W g A c lt a) (hlt : hd lt a < lt.length) :
  Calls Try.prog 78 #[.pointer (some ⟨g, 0, none⟩)] W fun e W' => ∃ a', a < a' ∧ a' ≤ lt.length ∧ Ret g A c lt W a' (40 * (a' - a) - 20) e W' := by
 have HTO := zaa.mk htk; have HUN := zaa.mk hun; have HPR := zaa.mk hpr; have HAR := zaa.mk har; have HLT := zaa.mk hlt; have HLEN := zaa.mk hP.len; clear htk hun hpr har hlt; have hu := Try.underlying27; go_enter Try.func78, Try.ntmps78
 go_upto_region 1 with (fail)
 obtain ⟨X, hX⟩ : ∃ X, X = W.alloc (nodeO 0 0 0 (.slice none 0 0)) := ⟨_, rfl⟩; obtain ⟨h2, hv⟩ := S2.start1 hP hX; change Code.wp Try.prog _ _ _ (W.alloc (nodeO 0 0 0 (.slice none 0 0)))
 rw [← hX]; generalize oky (fun q => W.heap.size ≤ q) W.heap.size = okx at h2 hv
 have H2 := zaa.mk h2; have HV := zaa.mk hv; clear h2 hv hX hP; obtain ⟨q, hq⟩ : ∃ q, q = cu lt a := ⟨_, rfl⟩; have HKF := zaa.mk (fun (X : World) (h : PS X g A c lt a) => (show Calls Try.prog 34 #[.pointer (some ⟨g, 0, none⟩)] X fun e w' => e = .returned (.int .u8 q) ∧ Below X.heap.size X w' from by rw [hq]; exact za9 g A c lt a X h))
 have HQ := zaa.mk hq; clear hq; by_cases h34 : q = 34
 ·have d34 : (q == 34) = true := by simp [h34]
  clear h34; go_upto_region 2 with (go_at_call 34; refine (HKF.out _ H2.out.ps).mono ?_; rintro e wk ⟨rfl, hb2⟩; have I2 := zaa.mk (H2.out.below hb2); have IV := zaa.mk (HV.out.below hb2); clear hb2 H2 HV)
  go_upto_region 3 with (go_at_call 50; refine (zbw g A c lt HTO.out a W.heap.size okx wk 62 0 0 (.slice none 0 0) [] 1 I2.out.ps (NV.leaf (by omega) (by omega) (by omega) (Nat.le_refl _)) I2.out.fr.size (fun q hq => I2.out.hg q (I2.out.sub q hq)) I2.out.fresh HLT.out (by have := HLEN.out; have := HLT.out; omega)).mono ?_; rintro e w3 ⟨wd1, u1, l1, rfl, h1, h2, h3, h4⟩; obtain ⟨A1, c1, rfl, _, _⟩ := Kd.zaQ h2.row; have hs_ := I2.out.ret h1 h3; have J2 := zaa.mk (hs_.newv (o := nodeO 62 0 wd1 (.slice A1 l1.length c1))); have JN := zaa.mk (NI.new_ (W := W) (r := none) hs_.fr.size h2 (zaK (v := .slice none 0 0) (.inl rfl) I2.out.fr.size h4)); have JV := zaa.mk ((VI.ret I2.out IV.out h3).newv (o := nodeO 62 0 wd1 (.slice A1 l1.length c1))); have HW3_ := zaa.mk (show W.heap.size < w3.heap.size from Nat.lt_of_lt_of_le IV.out.zaB h3.size); clear h1 h2 h3 h4 hs_ I2 IV)
  have HW3 := zaa.mk HW3_.out; clear HW3_; obtain ⟨X1, hX1⟩ : ∃ X1, X1 = w3.alloc (nodeO 62 0 wd1 (.slice A1 l1.length c1)) := ⟨_, rfl⟩; rw [← hX1] at J2 JN JV; change Code.wp Try.prog _ _ _ (w3.alloc (nodeO 62 0 wd1 (.slice A1 l1.length c1)))
  rw [← hX1]; clear hX1; obtain ⟨a1, ha1⟩ : ∃ a1, a1 = hd lt a + 1 := ⟨_, rfl⟩; have hge := hd_ge lt a; have hl1 : a < a1 ∧ a1 ≤ lt.length := ⟨by omega, by have := HLT.out; omega⟩
  obtain ⟨hl1a, hl1b⟩ := hl1; have n_ := zaa.mk (JN.out.more (N' := 40 * (a1 - a) - 38) (by omega))
  rw [← ha1] at J2; clear JN ha1 hge; have JN := n_; clear n_; have HKC := zaa.mk (za9 g A c lt a1 X1 J2.out.ps); obtain ⟨q1, hq1⟩ : ∃ q1, q1 = cu lt a1 := ⟨_, rfl⟩; rw [← hq1] at HKC; have HQ1 := zaa.mk hq1; clear hq1; obtain ⟨rr, hrr⟩ := expr_tot q1; have HRR := zaa.mk hrr; clear hrr; cases rr with
  | false =>
   go_upto_region 4 with (first | (go_at_call 34; refine HKC.out.mono ?_; rintro e w4 ⟨rfl, hb2⟩; have I1 := zaa.mk (J2.out.below hb2); have IN1 := zaa.mk (JN.out.below hb2); have IV1 := zaa.mk (JV.out.below hb2); clear hb2 J2 JN JV HKC) | (go_at_call 59; refine (zaF.calls _ _ _ HRR.out).mono ?_; rintro e w5 ⟨rfl, hd2⟩; have hb2 := hd2.below; clear hd2; have K2 := zaa.mk (I1.out.below hb2); have KN := zaa.mk (IN1.out.below hb2); have KV := zaa.mk (IV1.out.below hb2); clear hb2 I1 IN1 IV1))
   obtain ⟨x0, x1, x2, x3⟩ := KN.out.cells; go_wp2_with (go_at_call 71; refine (zb3 g A c lt a1 W.heap.size (oky okx w3.heap.size) w5 62 0 wd1 _ l1 (40 * (a1 - a) - 38) 60 (by omega) K2.out.ps KN.out.nv K2.out.fr.size (fun q hq => K2.out.hg q (K2.out.sub q hq)) K2.out.fresh (by have := HLEN.out; omega)).mono ?_; rintro e w6 ⟨wd3, u3, l3, rfl, h1, h2, h3, h4⟩; obtain ⟨A3, c3, rfl, _, _⟩ := Kd.zaQ h2.row; have hv_ := KV.out.same (K2.out.var KV.out h3 (fun q hq => KN.out.nv.row.1 q hq)); have HEND := zaa.mk ((K2.out.ext KN.out h1 h3).done hv_ h2 (zaK KN.out.near K2.out.fr.size h4)); obtain ⟨z0, z1, z2, z3, hz_⟩ := hv_.at_; have HZ := zaa.mk hz_; have f0 := zab hz_ 0; have f1 := zab hz_ 1; have f2 := zab hz_ 2; have f3 := zab hz_ 3; obtain ⟨⟨d0, d1, d2, d3⟩, dl⟩ := zaD hz_; clear h1 h2 h3 h4 hv_ hz_ x0 x1 x2 x3)
   refine bodyPost_ret (zaR (r := .cell 2 27) rfl (.cell (W.heap.size) 27 _ (0, 0) _ rfl (zbe HZ.out) Try.underlying27 rfl (by kernel_rfl) .nil)) rfl ?_
   refine ⟨a1, by omega, hl1b, ?_⟩
   obtain ⟨wd8, u8, l8, e1, e2, e3, e4, e5⟩ := HEND.out; exact ⟨_, _, wd8, u8, l8, e1, e2, e3.more (by omega), e4⟩
  | true =>
   have HLT1 := zaa.mk (cu_lt (l := lt) (a := a1) (by rw [← HQ1.out]; exact expr_ne HRR.out))
   have HHL1 := zaa.mk (hd_ge lt a1); go_upto_region 5 with (first | (go_at_call 34; refine HKC.out.mono ?_; rintro e w4 ⟨rfl, hb2⟩; have I1 := zaa.mk (J2.out.below hb2); have IN1 := zaa.mk (JN.out.below hb2); have IV1 := zaa.mk (JV.out.below hb2); clear hb2 J2 JN JV HKC) | (go_at_call 59; refine (zaF.calls _ _ _ HRR.out).mono ?_; rintro e w5 ⟨rfl, hd2⟩; have hb2 := hd2.below; clear hd2; have K2 := zaa.mk (I1.out.below hb2); have KN := zaa.mk (IN1.out.below hb2); have KV := zaa.mk (IV1.out.below hb2); clear hb2 I1 IN1 IV1))
   obtain ⟨x0, x1, x2, x3⟩ := KN.out.cells; go_upto_region 6 with (go_at_call 36; refine (zb1 g A c lt HTO.out a1 W.heap.size (oky okx w3.heap.size) w5 62 0 wd1 _ l1 (40 * (a1 - a) - 38) K2.out.ps KN.out.nv K2.out.fr.size (fun q hq => K2.out.hg q (K2.out.sub q hq)) K2.out.fresh (by have := HLEN.out; have := HLT1.out; omega)).mono ?_; rintro e w6 ⟨wd2, u2, l2, rfl, h1, h2, h3, h4⟩; obtain ⟨A2, c2, rfl, _, _⟩ := Kd.zaQ h2.row; have hp_ := KN.out.vi.same (K2.out.var KN.out.vi h3 (fun q hq => KN.out.nv.row.1 q hq)); have L2 := zaa.mk ((K2.out.ext KN.out h1 h3).put (k := 62) (w := 0) (wd := wd2) (u := .slice A2 l2.length c2) hp_); have LN := zaa.mk (NI.put hp_ h2 (zaK KN.out.near K2.out.fr.size h4)); have hv_ := KV.out.same (K2.out.var KV.out h3 (fun q hq => KN.out.nv.row.1 q hq)); have LV := zaa.mk (hv_.put (p := w3.heap.size) (k := 62) (w := 0) (wd := wd2) (u := .slice A2 l2.length c2) (fun e_ => by have := HW3.out; omega)); clear hv_; obtain ⟨z0, z1, z2, z3, hz_⟩ := hp_.at_; have f0 := zab hz_ 0; have f1 := zab hz_ 1; have f2 := zab hz_ 2; have f3 := zab hz_ 3; obtain ⟨⟨d0, d1, d2, d3⟩, dl⟩ := zaD hz_; clear h1 h2 h3 h4 hp_ hz_ x0 x1 x2 x3 K2 KN KV)
   obtain ⟨X2, hX1⟩ : ∃ X1, X1 = putN w6 w3.heap.size 62 0 wd2 (.slice A2 l2.length c2) := ⟨_, rfl⟩; rw [← hX1] at L2 LN LV; simp only [putN] at hX1; rw [← hX1]; clear hX1 f0 f1 f2 f3 d0 d1 d2 d3 dl; obtain ⟨N1, hN1⟩ : ∃ N1, N1 = 40 * (a1 - a) - 38 + (hd lt a1 - a1) := ⟨_, rfl⟩; rw [← hN1] at LN; have HN1 := zaa.mk hN1; clear hN1; have HSZ := zaa.mk (show N1 + 40 * (lt.length - hd lt a1) ≤ 899990 by have := HN1.out; have := HLT1.out; have := HHL1.out; have := HLEN.out; omega)
   have HBW := zaa.mk (Nat.le_refl W.heap.size); have D2 := zaa.mk (L2.out.below (Y := X2.drew) (Below.refl _ _).drew); have DN := zaa.mk (LN.out.below (Y := X2.drew) (Below.refl _ _).drew); have DV := zaa.mk (LV.out.below (Y := X2.drew) (Below.refl _ _).drew); have HS0 := zaa.mk DN.out.cells; clear L2 LN LV; refine wp_region_noPanic (zbx [0, 1, 2, 3] (fun W' => W'.cell? ⟨w3.heap.size, 0, none⟩ = some (.int .u8 62) ∧ W'.cell? ⟨w3.heap.size, 1, none⟩ = some (.int .u8 0) ∧ W'.cell? ⟨w3.heap.size, 2, none⟩ = some (.int .i64 wd2) ∧ W'.cell? ⟨w3.heap.size, 3, none⟩ = some (.slice A2 l2.length c2)) (by kernel_rfl) ?_)
   refine zar 0 (v := ?_) HS0.out ?_ ?_
   rotate_left
   ·(intro W' hW'; obtain ⟨s0, s1, s2, s3⟩ := hW'; go_simp; try rfl)
   simp only [Act.put, zav]; refine zar 1 (v := ?_) HS0.out ?_ ?_
   rotate_left
   ·(intro W' hW'; obtain ⟨s0, s1, s2, s3⟩ := hW'; go_simp; try rfl)
   simp only [Act.put, zav]; refine zaX (i := 2) rfl (by kernel_rfl) (fun K hK => ?_)
   go_simp
   refine (HUN.out (hd lt a1) (by have := HHL1.out; omega) X2.drew D2.out.ps (by rw [hd_hd]; exact HLT1.out)).mono ?_
   rintro e w5 ⟨a9, hlo, hhi, k9, w9, wd9, u9, l9, rfl, p1, p2, p3⟩
   obtain ⟨kA, kc, rfl, _, _⟩ := Kd.zaQ p2.row; have E2 := zaa.mk (D2.out.ret p1 p3); have EN := zaa.mk (NI.ret D2.out DN.out p3); have EV := zaa.mk (VI.ret D2.out DV.out p3); have HKID := zaa.mk (kid_nv (b := W.heap.size) (okx := (oky okx w3.heap.size)) p2 (Nat.le_trans HBW.out D2.out.fr.size) D2.out.fresh (fun q hq => Kd.N_lt DN.out.nv.row q hq))
   have HS1 := zaa.mk EN.out.cells; clear p1 p2 p3; refine hK.out _ _ (fun _ => HS1.out) (fun _ => ?_)
   clear hK K; try simp only [Act.put, zav]
   refine zaX (i := 3) rfl (by kernel_rfl) (fun K hK => ?_)
   go_simp
   refine (zb5 W.heap.size (oky okx w3.heap.size) w5 62 0 wd2 _ l2 N1 _ _ _ _ _ _ EN.out.nv (Nat.le_trans HBW.out E2.out.fr.size) E2.out.fresh HKID.out (by have := HSZ.out; omega)).mono ?_
   rintro e w6 ⟨wd6, u6, l6, rfl, h1, h2, h3⟩
   obtain ⟨A6, c6, rfl, _, _⟩ := Kd.zaQ h1.row; have F2 := zaa.mk (E2.out.ext EN.out (E2.out.addps EN.out h2) (Fr.za1 h2)); have hv_ := EV.out.same (E2.out.var EV.out (Fr.za1 h2) (fun q hq => EN.out.nv.row.1 q hq))
   have FN := zaa.mk (EN.out.vi.same (E2.out.var EN.out.vi (Fr.za1 h2) (fun q hq => EN.out.nv.row.1 q hq)))
   have HS2 := zaa.mk ((zaD ((E2.out.var EN.out.vi (Fr.za1 h2) (fun q hq => EN.out.nv.row.1 q hq)).trans EN.out.box)).1)
   have HEND := zaa.mk (F2.out.done hv_ h1 (zaK EN.out.near E2.out.fr.size h3)); obtain ⟨z0, z1, z2, z3, hz_⟩ := hv_.at_; have HZ := zaa.mk hz_; have f0 := zab hz_ 0; have f1 := zab hz_ 1; have f2 := zab hz_ 2; have f3 := zab hz_ 3; obtain ⟨⟨d0, d1, d2, d3⟩, dl⟩ := zaD hz_
   clear h1 h2 h3 hv_ hz_; refine hK.out _ _ (fun _ => HS2.out) (fun _ => ?_)
   clear hK K; try simp only [Act.put, zav]
   refine zaX (i := 4) rfl (by kernel_rfl) (fun K hK => ?_)
   go_simp
   refine hK.out _ _ (fun h => Bool.noConfusion (show false = true from h)) (fun _ => ?_)
   clear hK K; try simp only [Act.put, zav]
   refine zbd (by kernel_rfl) (NoPanic.normal ?_) _
   clear d0 d1 d2 d3 dl f0 f1 f2 f3; go_wp2
   refine bodyPost_ret (zaR (r := .cell 2 27) rfl (.cell (W.heap.size) 27 _ (0, 0) _ rfl (zbe HZ.out) Try.underlying27 rfl (by kernel_rfl) .nil)) rfl ?_
   refine ⟨a9, by have := HHL1.out; have := HN1.out; omega, hhi, ?_⟩
   obtain ⟨wd8, u8, l8, e1, e2, e3, e4, e5⟩ := HEND.out; exact ⟨_, _, wd8, u8, l8, e1, e2, e3.more (by have := HHL1.out; have := HN1.out; omega), e4⟩
 have d34 : (q == 34) = false := by simp [h34]
 by_cases h38 : q = 38
 ·have d38 : (q == 38) = true := by simp [h38]
  clear h34 h38; go_upto_region 2 with (first | (go_at_call 34; refine (HKF.out _ H2.out.ps).mono ?_; rintro e wj ⟨rfl, hb2⟩; have H3 := zaa.mk (H2.out.below hb2); have HV3 := zaa.mk (HV.out.below hb2); clear hb2 H2 HV) | (go_at_call 34; refine (HKF.out _ H3.out.ps).mono ?_; rintro e wk ⟨rfl, hb2⟩; have I2 := zaa.mk (H3.out.below hb2); have IV := zaa.mk (HV3.out.below hb2); clear hb2 H3 HV3))
  go_upto_region 3 with (go_at_call 50; refine (zbw g A c lt HTO.out a W.heap.size okx wk 62 0 0 (.slice none 0 0) [] 1 I2.out.ps (NV.leaf (by omega) (by omega) (by omega) (Nat.le_refl _)) I2.out.fr.size (fun q hq => I2.out.hg q (I2.out.sub q hq)) I2.out.fresh HLT.out (by have := HLEN.out; have := HLT.out; omega)).mono ?_; rintro e w3 ⟨wd1, u1, l1, rfl, h1, h2, h3, h4⟩; obtain ⟨A1, c1, rfl, _, _⟩ := Kd.zaQ h2.row; have hs_ := I2.out.ret h1 h3; have J2 := zaa.mk (hs_.newv (o := nodeO 62 0 wd1 (.slice A1 l1.length c1))); have JN := zaa.mk (NI.new_ (W := W) (r := none) hs_.fr.size h2 (zaK (v := .slice none 0 0) (.inl rfl) I2.out.fr.size h4)); have JV := zaa.mk ((VI.ret I2.out IV.out h3).newv (o := nodeO 62 0 wd1 (.slice A1 l1.length c1))); have HW3_ := zaa.mk (show W.heap.size < w3.heap.size from Nat.lt_of_lt_of_le IV.out.zaB h3.size); clear h1 h2 h3 h4 hs_ I2 IV)
  have HW3 := zaa.mk HW3_.out; clear HW3_; obtain ⟨X1, hX1⟩ : ∃ X1, X1 = w3.alloc (nodeO 62 0 wd1 (.slice A1 l1.length c1)) := ⟨_, rfl⟩; rw [← hX1] at J2 JN JV; change Code.wp Try.prog _ _ _ (w3.alloc (nodeO 62 0 wd1 (.slice A1 l1.length c1)))
  rw [← hX1]; clear hX1; obtain ⟨a1, ha1⟩ : ∃ a1, a1 = hd lt a + 1 := ⟨_, rfl⟩; have hge := hd_ge lt a; have hl1 : a < a1 ∧ a1 ≤ lt.length := ⟨by omega, by have := HLT.out; omega⟩
  obtain ⟨hl1a, hl1b⟩ := hl1; have n_ := zaa.mk (JN.out.more (N' := 40 * (a1 - a) - 38) (by omega))
  rw [← ha1] at J2; clear JN ha1 hge; have JN := n_; clear n_; have HKC := zaa.mk (za9 g A c lt a1 X1 J2.out.ps); obtain ⟨q1, hq1⟩ : ∃ q1, q1 = cu lt a1 := ⟨_, rfl⟩; rw [← hq1] at HKC; have HQ1 := zaa.mk hq1; clear hq1; obtain ⟨rr, hrr⟩ := expr_tot q1; have HRR := zaa.mk hrr; clear hrr; cases rr with
  | false =>
   go_upto_region 4 with (first | (go_at_call 34; refine HKC.out.mono ?_; rintro e w4 ⟨rfl, hb2⟩; have I1 := zaa.mk (J2.out.below hb2); have IN1 := zaa.mk (JN.out.below hb2); have IV1 := zaa.mk (JV.out.below hb2); clear hb2 J2 JN JV HKC) | (go_at_call 59; refine (zaF.calls _ _ _ HRR.out).mono ?_; rintro e w5 ⟨rfl, hd2⟩; have hb2 := hd2.below; clear hd2; have K2 := zaa.mk (I1.out.below hb2); have KN := zaa.mk (IN1.out.below hb2); have KV := zaa.mk (IV1.out.below hb2); clear hb2 I1 IN1 IV1))
   obtain ⟨x0, x1, x2, x3⟩ := KN.out.cells; go_wp2_with (go_at_call 71; refine (zb3 g A c lt a1 W.heap.size (oky okx w3.heap.size) w5 62 0 wd1 _ l1 (40 * (a1 - a) - 38) 60 (by omega) K2.out.ps KN.out.nv K2.out.fr.size (fun q hq => K2.out.hg q (K2.out.sub q hq)) K2.out.fresh (by have := HLEN.out; omega)).mono ?_; rintro e w6 ⟨wd3, u3, l3, rfl, h1, h2, h3, h4⟩; obtain ⟨A3, c3, rfl, _, _⟩ := Kd.zaQ h2.row; have hv_ := KV.out.same (K2.out.var KV.out h3 (fun q hq => KN.out.nv.row.1 q hq)); have HEND := zaa.mk ((K2.out.ext KN.out h1 h3).done hv_ h2 (zaK KN.out.near K2.out.fr.size h4)); obtain ⟨z0, z1, z2, z3, hz_⟩ := hv_.at_; have HZ := zaa.mk hz_; have f0 := zab hz_ 0; have f1 := zab hz_ 1; have f2 := zab hz_ 2; have f3 := zab hz_ 3; obtain ⟨⟨d0, d1, d2, d3⟩, dl⟩ := zaD hz_; clear h1 h2 h3 h4 hv_ hz_ x0 x1 x2 x3)
   refine bodyPost_ret (zaR (r := .cell 2 27) rfl (.cell (W.heap.size) 27 _ (0, 0) _ rfl (zbe HZ.out) Try.underlying27 rfl (by kernel_rfl) .nil)) rfl ?_
   refine ⟨a1, by omega, hl1b, ?_⟩
   obtain ⟨wd8, u8, l8, e1, e2, e3, e4, e5⟩ := HEND.out; exact ⟨_, _, wd8, u8, l8, e1, e2, e3.more (by omega), e4⟩
  | true =>
   have HLT1 := zaa.mk (cu_lt (l := lt) (a := a1) (by rw [← HQ1.out]; exact expr_ne HRR.out))
   have HHL1 := zaa.mk (hd_ge lt a1); go_upto_region 5 with (first | (go_at_call 34; refine HKC.out.mono ?_; rintro e w4 ⟨rfl, hb2⟩; have I1 := zaa.mk (J2.out.below hb2); have IN1 := zaa.mk (JN.out.below hb2); have IV1 := zaa.mk (JV.out.below hb2); clear hb2 J2 JN JV HKC) | (go_at_call 59; refine (zaF.calls _ _ _ HRR.out).mono ?_; rintro e w5 ⟨rfl, hd2⟩; have hb2 := hd2.below; clear hd2; have K2 := zaa.mk (I1.out.below hb2); have KN := zaa.mk (IN1.out.below hb2); have KV := zaa.mk (IV1.out.below hb2); clear hb2 I1 IN1 IV1))
   obtain ⟨x0, x1, x2, x3⟩ := KN.out.cells; go_upto_region 6 with (go_at_call 36; refine (zb1 g A c lt HTO.out a1 W.heap.size (oky okx w3.heap.size) w5 62 0 wd1 _ l1 (40 * (a1 - a) - 38) K2.out.ps KN.out.nv K2.out.fr.size (fun q hq => K2.out.hg q (K2.out.sub q hq)) K2.out.fresh (by have := HLEN.out; have := HLT1.out; omega)).mono ?_; rintro e w6 ⟨wd2, u2, l2, rfl, h1, h2, h3, h4⟩; obtain ⟨A2, c2, rfl, _, _⟩ := Kd.zaQ h2.row; have hp_ := KN.out.vi.same (K2.out.var KN.out.vi h3 (fun q hq => KN.out.nv.row.1 q hq)); have L2 := zaa.mk ((K2.out.ext KN.out h1 h3).put (k := 62) (w := 0) (wd := wd2) (u := .slice A2 l2.length c2) hp_); have LN := zaa.mk (NI.put hp_ h2 (zaK KN.out.near K2.out.fr.size h4)); have hv_ := KV.out.same (K2.out.var KV.out h3 (fun q hq => KN.out.nv.row.1 q hq)); have LV := zaa.mk (hv_.put (p := w3.heap.size) (k := 62) (w := 0) (wd := wd2) (u := .slice A2 l2.length c2) (fun e_ => by have := HW3.out; omega)); clear hv_; obtain ⟨z0, z1, z2, z3, hz_⟩ := hp_.at_; have f0 := zab hz_ 0; have f1 := zab hz_ 1; have f2 := zab hz_ 2; have f3 := zab hz_ 3; obtain ⟨⟨d0, d1, d2, d3⟩, dl⟩ := zaD hz_; clear h1 h2 h3 h4 hp_ hz_ x0 x1 x2 x3 K2 KN KV)
   obtain ⟨X2, hX1⟩ : ∃ X1, X1 = putN w6 w3.heap.size 62 0 wd2 (.slice A2 l2.length c2) := ⟨_, rfl⟩; rw [← hX1] at L2 LN LV; simp only [putN] at hX1; rw [← hX1]; clear hX1 f0 f1 f2 f3 d0 d1 d2 d3 dl; obtain ⟨N1, hN1⟩ : ∃ N1, N1 = 40 * (a1 - a) - 38 + (hd lt a1 - a1) := ⟨_, rfl⟩; rw [← hN1] at LN; have HN1 := zaa.mk hN1; clear hN1; have HSZ := zaa.mk (show N1 + 40 * (lt.length - hd lt a1) ≤ 899990 by have := HN1.out; have := HLT1.out; have := HHL1.out; have := HLEN.out; omega)
   have HBW := zaa.mk (Nat.le_refl W.heap.size); have D2 := zaa.mk (L2.out.below (Y := X2.drew) (Below.refl _ _).drew); have DN := zaa.mk (LN.out.below (Y := X2.drew) (Below.refl _ _).drew); have DV := zaa.mk (LV.out.below (Y := X2.drew) (Below.refl _ _).drew); have HS0 := zaa.mk DN.out.cells; clear L2 LN LV; refine wp_region_noPanic (zbx [0, 1, 2, 3] (fun W' => W'.cell? ⟨w3.heap.size, 0, none⟩ = some (.int .u8 62) ∧ W'.cell? ⟨w3.heap.size, 1, none⟩ = some (.int .u8 0) ∧ W'.cell? ⟨w3.heap.size, 2, none⟩ = some (.int .i64 wd2) ∧ W'.cell? ⟨w3.heap.size, 3, none⟩ = some (.slice A2 l2.length c2)) (by kernel_rfl) ?_)
   refine zar 0 (v := ?_) HS0.out ?_ ?_
   rotate_left
   ·(intro W' hW'; obtain ⟨s0, s1, s2, s3⟩ := hW'; go_simp; try rfl)
   simp only [Act.put, zav]; refine zar 1 (v := ?_) HS0.out ?_ ?_
   rotate_left
   ·(intro W' hW'; obtain ⟨s0, s1, s2, s3⟩ := hW'; go_simp; try rfl)
   simp only [Act.put, zav]; refine zaX (i := 2) rfl (by kernel_rfl) (fun K hK => ?_)
   go_simp
   refine (HUN.out (hd lt a1) (by have := HHL1.out; omega) X2.drew D2.out.ps (by rw [hd_hd]; exact HLT1.out)).mono ?_
   rintro e w5 ⟨a9, hlo, hhi, k9, w9, wd9, u9, l9, rfl, p1, p2, p3⟩
   obtain ⟨kA, kc, rfl, _, _⟩ := Kd.zaQ p2.row; have E2 := zaa.mk (D2.out.ret p1 p3); have EN := zaa.mk (NI.ret D2.out DN.out p3); have EV := zaa.mk (VI.ret D2.out DV.out p3); have HKID := zaa.mk (kid_nv (b := W.heap.size) (okx := (oky okx w3.heap.size)) p2 (Nat.le_trans HBW.out D2.out.fr.size) D2.out.fresh (fun q hq => Kd.N_lt DN.out.nv.row q hq))
   have HS1 := zaa.mk EN.out.cells; clear p1 p2 p3; refine hK.out _ _ (fun _ => HS1.out) (fun _ => ?_)
   clear hK K; try simp only [Act.put, zav]
   refine zaX (i := 3) rfl (by kernel_rfl) (fun K hK => ?_)
   go_simp
   refine (zb5 W.heap.size (oky okx w3.heap.size) w5 62 0 wd2 _ l2 N1 _ _ _ _ _ _ EN.out.nv (Nat.le_trans HBW.out E2.out.fr.size) E2.out.fresh HKID.out (by have := HSZ.out; omega)).mono ?_
   rintro e w6 ⟨wd6, u6, l6, rfl, h1, h2, h3⟩
   obtain ⟨A6, c6, rfl, _, _⟩ := Kd.zaQ h1.row; have F2 := zaa.mk (E2.out.ext EN.out (E2.out.addps EN.out h2) (Fr.za1 h2)); have hv_ := EV.out.same (E2.out.var EV.out (Fr.za1 h2) (fun q hq => EN.out.nv.row.1 q hq))
   have FN := zaa.mk (EN.out.vi.same (E2.out.var EN.out.vi (Fr.za1 h2) (fun q hq => EN.out.nv.row.1 q hq)))
   have HS2 := zaa.mk ((zaD ((E2.out.var EN.out.vi (Fr.za1 h2) (fun q hq => EN.out.nv.row.1 q hq)).trans EN.out.box)).1)
   have HEND := zaa.mk (F2.out.done hv_ h1 (zaK EN.out.near E2.out.fr.size h3)); obtain ⟨z0, z1, z2, z3, hz_⟩ := hv_.at_; have HZ := zaa.mk hz_; have f0 := zab hz_ 0; have f1 := zab hz_ 1; have f2 := zab hz_ 2; have f3 := zab hz_ 3; obtain ⟨⟨d0, d1, d2, d3⟩, dl⟩ := zaD hz_
   clear h1 h2 h3 hv_ hz_; refine hK.out _ _ (fun _ => HS2.out) (fun _ => ?_)
   clear hK K; try simp only [Act.put, zav]
   refine zaX (i := 4) rfl (by kernel_rfl) (fun K hK => ?_)
   go_simp
   refine hK.out _ _ (fun h => Bool.noConfusion (show false = true from h)) (fun _ => ?_)
   clear hK K; try simp only [Act.put, zav]
   refine zbd (by kernel_rfl) (NoPanic.normal ?_) _
   clear d0 d1 d2 d3 dl f0 f1 f2 f3; go_wp2
   refine bodyPost_ret (zaR (r := .cell 2 27) rfl (.cell (W.heap.size) 27 _ (0, 0) _ rfl (zbe HZ.out) Try.underlying27 rfl (by kernel_rfl) .nil)) rfl ?_
   refine ⟨a9, by have := HHL1.out; have := HN1.out; omega, hhi, ?_⟩
   obtain ⟨wd8, u8, l8, e1, e2, e3, e4, e5⟩ := HEND.out; exact ⟨_, _, wd8, u8, l8, e1, e2, e3.more (by have := HHL1.out; have := HN1.out; omega), e4⟩
 have d38 : (q == 38) = false := by simp [h38]
 clear h34 h38; go_upto_region 7 with (first | (go_at_call 34; refine (HKF.out _ H2.out.ps).mono ?_; rintro e wj ⟨rfl, hb2⟩; have H3 := zaa.mk (H2.out.below hb2); have HV3 := zaa.mk (HV.out.below hb2); clear hb2 H2 HV) | (go_at_call 34; refine (HKF.out _ H3.out.ps).mono ?_; rintro e wk ⟨rfl, hb2⟩; have I2 := zaa.mk (H3.out.below hb2); have IV := zaa.mk (HV3.out.below hb2); clear hb2 H3 HV3))
 go_upto_region 8 with (go_at_call 80; refine (HPR.out wk I2.out.ps HLT.out).mono ?_; rintro e w3 ⟨b1, b1a, b1l, k1, w1, wd1, u1, l1, rfl, h1, h2, h3⟩; obtain ⟨A1, c1, rfl, _, _⟩ := Kd.zaQ h2.row; have hs_ := I2.out.ret h1 h3; have J2 := zaa.mk (hs_.newv (o := nodeO k1 w1 wd1 (.slice A1 l1.length c1))); have JN := zaa.mk (NI.new_ (W := W) (r := none) hs_.fr.size (nv_new (b := W.heap.size) h2 I2.out.fr.size I2.out.fresh) (near_new (W := W) h2 I2.out.fr.size)); have JV := zaa.mk ((VI.ret I2.out IV.out h3).newv (o := nodeO k1 w1 wd1 (.slice A1 l1.length c1))); have HW3_ := zaa.mk (show W.heap.size < w3.heap.size from Nat.lt_of_lt_of_le IV.out.zaB h3.size); clear h1 h2 h3 hs_ I2 IV)
 have HNE := zaa.mk HW3_.out; clear HW3_; obtain ⟨X1, hX1⟩ : ∃ X1, X1 = w3.alloc (nodeO k1 w1 wd1 (.slice A1 l1.length c1)) := ⟨_, rfl⟩; rw [← hX1] at J2 JN JV; change Code.wp Try.prog _ _ _ (w3.alloc (nodeO k1 w1 wd1 (.slice A1 l1.length c1)))
 rw [← hX1]; clear hX1; go_loopg [] (lt.length - b1) (fun kq w' => ∃ (ai : Nat) (ki wi wdi : Int) (vi : Value) (li : List S27), a < ai ∧ ai ≤ lt.length ∧ zaa (kq = lt.length - ai) ∧ zaa (S2 g A c lt (fun q => W.heap.size ≤ q) (oky okx w3.heap.size) W none w' ai) ∧ zaa (NI W.heap.size (oky okx w3.heap.size) W none w' w3.heap.size ki wi wdi vi li (40 * (ai - a) - 20)) ∧ zaa (VI (oky okx w3.heap.size) W w' W.heap.size))
 case atStart => exact ⟨b1, k1, w1, wd1, _, l1, b1a, b1l, ⟨rfl⟩, J2, JN, JV⟩
 case round =>
  obtain ⟨ai, ki, wi, wdi, vi, li, hai, hail, HK, M2, MN, MV⟩ := hrel; obtain ⟨Ai, ci, rfl, _, _⟩ := Kd.zaQ MN.out.nv.row; have HKC := zaa.mk (za9 g A c lt ai wr M2.out.ps); obtain ⟨q2, hq2⟩ : ∃ q2, q2 = cu lt ai := ⟨_, rfl⟩; rw [← hq2] at HKC; have HQ2 := zaa.mk hq2; clear hq2; by_cases h20 : q2 = 20
  ·have d20 : (q2 == 20) = true := by simp [h20]
   have HLI := zaa.mk (cu_lt (l := lt) (a := ai) (by rw [← HQ2.out, h20]; omega))
   have HGI := zaa.mk (hd_ge lt ai); clear h20; have HM1 := zaa.mk (fun q hq => M2.out.sub q hq)
   have HM3 := zaa.mk MN.out.out; have HM4 := zaa.mk MV.out.out; go_upto_region 9 with (go_at_call 34; refine HKC.out.mono ?_; rintro e w7 ⟨rfl, hb2⟩; have O2 := zaa.mk (M2.out.below hb2); have ON := zaa.mk (MN.out.below hb2); have OV := zaa.mk (MV.out.below hb2); clear hb2 M2 MN MV HKC)
   obtain ⟨x0, x1, x2, x3⟩ := ON.out.cells; go_upto_region 10 with (first | (go_at_call 48; refine (zb5 W.heap.size (oky okx w3.heap.size) w7 63 0 0 (.slice none 0 0) [] 1 _ _ _ _ _ (40 * (ai - a) - 20) (NV.leaf (by omega) (by omega) (by omega) (Nat.le_refl _)) O2.out.fr.size O2.out.fresh (ON.out.nv.mono (fun q hq => ⟨hq, by simp [Value.ownBlock]⟩)) (by have := HLEN.out; omega)).mono ?_; rintro e w8 ⟨wd7, u7, l7, rfl, h1, h2, h3⟩; obtain ⟨A7, c7, rfl, _, _⟩ := Kd.zaQ h1.row; have hfr : Fr g none w7 w8 := Fr.za1 h2; have P2 := zaa.mk (O2.out.ret (O2.out.ps.keep (fun q hq => h2.block q (by have := O2.out.ps.lt; omega) (by simp [Value.ownBlock]))) hfr); have PN := zaa.mk h1; have PA := zaa.mk (zaK (v := .slice none 0 0) (.inl rfl) O2.out.fr.size h3 : Near W none _); have PT := zaa.mk (VI.ret O2.out ON.out.vi hfr); have PV := zaa.mk (VI.ret O2.out OV.out hfr); clear h1 h2 h3 hfr O2 ON OV x0 x1 x2 x3) | (go_at_call 36; refine (zb1 g A c lt HTO.out ai W.heap.size (oky okx w3.heap.size) w8 63 0 wd7 _ l7 (1 + (40 * (ai - a) - 20)) P2.out.ps PN.out P2.out.fr.size (fun q hq => P2.out.hg q (P2.out.sub q hq)) P2.out.fresh (by have := HLEN.out; have := HLI.out; omega)).mono ?_; rintro e w9 ⟨wd4, u4, l4, rfl, h1, h2, h3, h4⟩; obtain ⟨A4, c4, rfl, _, _⟩ := Kd.zaQ h2.row; have hs_ : S2 g A c lt (fun q => W.heap.size ≤ q) (oky okx w3.heap.size) W none w9 (hd lt ai) := ⟨h1, P2.out.fr.trans h3 (near_row PA.out), P2.out.gW, P2.out.hg, P2.out.sub, fun q hq => P2.out.fresh q (Nat.le_trans h3.size hq)⟩; have hr_ : ∀ q, (Value.slice A7 l7.length c7).ownBlock = some q → (oky okx w3.heap.size) q := fun q hq => PN.out.row.1 q hq; have Q2 := zaa.mk (hs_.newv (o := nodeO 63 0 wd4 (.slice A4 l4.length c4))); have QN := zaa.mk (NI.new_ (W := W) (r := none) hs_.fr.size h2 (zaK PA.out P2.out.fr.size h4)); have QT := zaa.mk ((PT.out.same (P2.out.var PT.out h3 hr_)).newv (o := nodeO 63 0 wd4 (.slice A4 l4.length c4))); have QV := zaa.mk ((PV.out.same (P2.out.var PV.out h3 hr_)).newv (o := nodeO 63 0 wd4 (.slice A4 l4.length c4))); have HSZ8 := zaa.mk (show w3.heap.size < w9.heap.size from Nat.lt_of_lt_of_le PT.out.zaB h3.size); clear h1 h2 h3 h4 hs_ hr_ P2 PN PA PT PV))
   obtain ⟨X4, hX1⟩ : ∃ X1, X1 = w9.alloc (nodeO 63 0 wd4 (.slice A4 l4.length c4)) := ⟨_, rfl⟩; rw [← hX1] at Q2 QN QT QV; change Code.wp Try.prog _ _ _ (w9.alloc (nodeO 63 0 wd4 (.slice A4 l4.length c4)))
   rw [← hX1]; clear hX1; obtain ⟨N4, hN4⟩ : ∃ N4, N4 = 1 + (40 * (ai - a) - 20) + (hd lt ai - ai) := ⟨_, rfl⟩; rw [← hN4] at QN; have HN4 := zaa.mk hN4; clear hN4; have HSZ := zaa.mk (show N4 + 40 * (lt.length - hd lt ai) ≤ 899990 by have := HN4.out; have := HLI.out; have := HGI.out; have := HLEN.out; omega)
   have HBW := zaa.mk (Nat.le_refl W.heap.size); have D2 := zaa.mk (Q2.out.below (Y := X4.drew) (Below.refl _ _).drew); have DN := zaa.mk (QN.out.below (Y := X4.drew) (Below.refl _ _).drew); have DV := zaa.mk (QT.out.below (Y := X4.drew) (Below.refl _ _).drew); have DRV := zaa.mk (QV.out.below (Y := X4.drew) (Below.refl _ _).drew); have HS0 := zaa.mk DN.out.cells; clear Q2 QN QT QV; refine wp_region_noPanic (zbx [0, 1, 2, 3] (fun W' => W'.cell? ⟨w9.heap.size, 0, none⟩ = some (.int .u8 63) ∧ W'.cell? ⟨w9.heap.size, 1, none⟩ = some (.int .u8 0) ∧ W'.cell? ⟨w9.heap.size, 2, none⟩ = some (.int .i64 wd4) ∧ W'.cell? ⟨w9.heap.size, 3, none⟩ = some (.slice A4 l4.length c4)) (by kernel_rfl) ?_)
   refine zar 0 (v := ?_) HS0.out ?_ ?_
   rotate_left
   ·(intro W' hW'; obtain ⟨s0, s1, s2, s3⟩ := hW'; go_simp; try rfl)
   simp only [Act.put, zav]; refine zar 1 (v := ?_) HS0.out ?_ ?_
   rotate_left
   ·(intro W' hW'; obtain ⟨s0, s1, s2, s3⟩ := hW'; go_simp; try rfl)
   simp only [Act.put, zav]; refine zaX (i := 2) rfl (by kernel_rfl) (fun K hK => ?_)
   go_simp
   refine (HAR.out (hd lt ai) (by have := HGI.out; omega) X4.drew D2.out.ps (by rw [hd_hd]; exact HLI.out)).mono ?_
   rintro e w5 ⟨a9, hlo, hhi, k9, w9_, wd9, u9, l9, rfl, p1, p2, p3⟩
   obtain ⟨kA, kc, rfl, _, _⟩ := Kd.zaQ p2.row; have E2 := zaa.mk (D2.out.ret p1 p3); have EN := zaa.mk (NI.ret D2.out DN.out p3); have EV := zaa.mk (VI.ret D2.out DV.out p3); have ERV := zaa.mk (VI.ret D2.out DRV.out p3); have HKID := zaa.mk (kid_nv (b := W.heap.size) (okx := (oky (oky okx w3.heap.size) w9.heap.size)) p2 (Nat.le_trans HBW.out D2.out.fr.size) D2.out.fresh (fun q hq => Kd.N_lt DN.out.nv.row q hq))
   have HS1 := zaa.mk EN.out.cells; clear p1 p2 p3; refine hK.out _ _ (fun _ => HS1.out) (fun _ => ?_)
   clear hK K; try simp only [Act.put, zav]
   refine zaX (i := 3) rfl (by kernel_rfl) (fun K hK => ?_)
   go_simp
   refine (zb5 W.heap.size (oky (oky okx w3.heap.size) w9.heap.size) w5 63 0 wd4 _ l4 N4 _ _ _ _ _ _ EN.out.nv (Nat.le_trans HBW.out E2.out.fr.size) E2.out.fresh HKID.out (by have := HSZ.out; omega)).mono ?_
   rintro e w6 ⟨wd6, u6, l6, rfl, h1, h2, h3⟩
   obtain ⟨A6, c6, rfl, _, _⟩ := Kd.zaQ h1.row; have F2 := zaa.mk (E2.out.ext EN.out (E2.out.addps EN.out h2) (Fr.za1 h2)); have hv_ := EV.out.same (E2.out.var EV.out (Fr.za1 h2) (fun q hq => EN.out.nv.row.1 q hq))
   have FN := zaa.mk (EN.out.vi.same (E2.out.var EN.out.vi (Fr.za1 h2) (fun q hq => EN.out.nv.row.1 q hq)))
   have HS2 := zaa.mk ((zaD ((E2.out.var EN.out.vi (Fr.za1 h2) (fun q hq => EN.out.nv.row.1 q hq)).trans EN.out.box)).1)
   have R2 := zaa.mk (F2.out.put (k := 63) (w := 0) (wd := wd6) (u := .slice A6 l6.length c6) hv_); have RN := zaa.mk (NI.put hv_ h1 (zaK EN.out.near E2.out.fr.size h3)); have RV := zaa.mk ((ERV.out.same (E2.out.var ERV.out (Fr.za1 h2) (fun q hq => EN.out.nv.row.1 q hq))).put (p := w3.heap.size) (k := 63) (w := 0) (wd := wd6) (u := .slice A6 l6.length c6) (fun e_ => by have := HNE.out; omega))
   obtain ⟨z0, z1, z2, z3, hz_⟩ := hv_.at_; have HZ := zaa.mk hz_; have f0 := zab hz_ 0; have f1 := zab hz_ 1; have f2 := zab hz_ 2; have f3 := zab hz_ 3; obtain ⟨⟨d0, d1, d2, d3⟩, dl⟩ := zaD hz_
   clear h1 h2 h3 hv_ hz_; refine hK.out _ _ (fun _ => HS2.out) (fun _ => ?_)
   clear hK K; try simp only [Act.put, zav]
   refine zaX (i := 4) rfl (by kernel_rfl) (fun K hK => ?_)
   go_simp
   refine hK.out _ _ (fun h => Bool.noConfusion (show false = true from h)) (fun _ => ?_)
   clear hK K; try simp only [Act.put, zav]
   refine zbd (by kernel_rfl) (NoPanic.normal ?_) _
   obtain ⟨X6, hX1⟩ : ∃ X1, X1 = putN w6 w3.heap.size 63 0 wd6 (.slice A6 l6.length c6) := ⟨_, rfl⟩; rw [← hX1] at R2 RN RV; simp only [putN] at hX1; rw [← hX1]; clear hX1 f0 f1 f2 f3 d0 d1 d2 d3 dl; go_wp2_with fail
   go_roundg (lt.length - a9)
   case measure => have := HK.out; have := HGI.out; omega
   case rel => exact ⟨a9, 63, 0, wd6, _, l6, by have := HGI.out; omega, hhi, ⟨rfl⟩, ⟨R2.out.okx HM1.out (fun q hq => (R2.out.fresh q hq).1)⟩, ⟨(RN.out.okx (fun q hq => hq.1) HM3.out).more (by have := HN4.out; have := HGI.out; omega)⟩, ⟨RV.out.okx HM4.out⟩⟩
  ·have d20 : (q2 == 20) = false := by simp [h20]
   clear h20; go_upto_region 11 with (go_at_call 34; refine HKC.out.mono ?_; rintro e w7 ⟨rfl, hb2⟩; have O2 := zaa.mk (M2.out.below hb2); have ON := zaa.mk (MN.out.below hb2); have OV := zaa.mk (MV.out.below hb2); clear hb2 M2 MN MV HKC)
   obtain ⟨x0, x1, x2, x3⟩ := ON.out.cells; have HEND := zaa.mk (O2.out.done OV.out ON.out.nv ON.out.near); obtain ⟨z0, z1, z2, z3, hz_⟩ := OV.out.at_; have HZ := zaa.mk hz_; have f0 := zab hz_ 0; have f1 := zab hz_ 1; have f2 := zab hz_ 2; have f3 := zab hz_ 3; obtain ⟨⟨d0, d1, d2, d3⟩, dl⟩ := zaD hz_
   clear hz_; go_wp2
   refine bodyPost_ret (zaR (r := .cell 2 27) rfl (.cell (W.heap.size) 27 _ (0, 0) _ rfl (zbe HZ.out) Try.underlying27 rfl (by kernel_rfl) .nil)) rfl ?_
   refine ⟨ai, by omega, hail, ?_⟩
   obtain ⟨wd8, u8, l8, e1, e2, e3, e4, e5⟩ := HEND.out; exact ⟨_, _, wd8, u8, l8, e1, e2, e3.more (by omega), e4⟩
def CExprS (g : Nat) (A : Option Addr) (c : Nat) (lt : List S39) (a : Nat) : Prop := ∀ (b : Nat) (ok : Nat → Prop) (W : World) (k w wd : Int) (v : Value) (l : List S27) (N : Nat), PS W g A c lt a → NV b ok W k w wd v l N → b ≤ W.heap.size → (∀ q, ok q → g < q) → (∀ q, W.heap.size ≤ q → ok q) → N + 40 * (lt.length - a) + 10 ≤ 900000 →
  Calls Try.prog 61 #[.pointer (some ⟨g, 0, none⟩), .agg #[.int .u8 k, .int .u8 w, .int .i64 wd, v]] W fun e W' => ∃ a', a ≤ a' ∧ a' ≤ lt.length ∧ (zaF.f (cu lt a) = some true → a < a') ∧ Ext g A c lt b ok W k w v.ownBlock a' (if a' = a then N + 1 else N + 40 * (a' - a) - 19) e W'
def CBlock (g : Nat) (A : Option Addr) (c : Nat) (lt : List S39) (a : Nat) : Prop := ∀ (b : Nat) (ok : Nat → Prop) (W : World) (k w wd : Int) (v : Value) (l : List S27) (N : Nat), PS W g A c lt a → NV b ok W k w wd v l N → b ≤ W.heap.size → (∀ q, ok q → g < q) → (∀ q, W.heap.size ≤ q → ok q) → N + 40 * (lt.length - a) + 10 ≤ 900000 →
  Calls Try.prog 63 #[.pointer (some ⟨g, 0, none⟩), .agg #[.int .u8 k, .int .u8 w, .int .i64 wd, v]] W fun e W' => ∃ a', a ≤ a' ∧ a' ≤ lt.length ∧ Ext g A c lt b ok W k w v.ownBlock a' (N + 40 * (a' - a) + 1) e W'
theorem stmt_vals {x r : Int} (h : zaE.f x = some r) (h0 : r ≠ 0) : r = 53 ∨ r = 54 ∨ r = 56 ∨ r = 57 ∨ r = 58 ∨ r = 52 ∨ (r = 59 ∧ zaF.f x = some true) := by
 unfold zaE.f at h
 obtain ⟨t, ht⟩ := expr_tot x; rw [ht] at h; repeat' split at h
 all_goals first
  | (injection h with h; omega)
  | (cases t <;> simp at h <;> first | exact absurd h.symm h0 | exact .inr (.inr (.inr (.inr (.inr (.inr ⟨h.symm, ht⟩))))))
set_option maxHeartbeats 8000000 in
set_option maxRecDepth 100000 in
theorem st_let (g : Nat) (A : Option Addr) (c : Nat) (lt : List S39) (htk : TkOk lt) (a : Nat) (hK : zaE.f (cu lt a) = some 53) (hexp : ∀ a1, a < a1 → CExpr g A c lt a1) (W : World) (hP : PS W g A c lt a) :
  Calls Try.prog 49 #[.pointer (some ⟨g, 0, none⟩)] W fun e W' => ∃ a', a < a' ∧ a' ≤ lt.length ∧ Ret g A c lt W a' (40 * (a' - a) - 10) e W' := by
 have HTO := zaa.mk htk; have HLT := zaa.mk (cu_lt (stmt_ne hK (by omega)))
 have HLEN := zaa.mk hP.len; have HLE := zaa.mk (And.intro hP.le (hd_ge lt a)); have HEXP := zaa.mk hexp; clear htk hexp; have hu := Try.underlying27; go_enter Try.func49, Try.ntmps49
 go_upto_region 1 with (fail)
 obtain ⟨X, hX⟩ : ∃ X, X = W.alloc (nodeO 0 0 0 (.slice none 0 0)) := ⟨_, rfl⟩; obtain ⟨h2, hv⟩ := S2.start1 hP hX; change Code.wp Try.prog _ _ _ (W.alloc (nodeO 0 0 0 (.slice none 0 0)))
 rw [← hX]; generalize oky (fun q => W.heap.size ≤ q) W.heap.size = okx at h2 hv
 have I2 := zaa.mk h2; have IV := zaa.mk hv; clear h2 hv hX hP; have HKC := zaa.mk (za9 g A c lt a X I2.out.ps); obtain ⟨q, hq⟩ : ∃ q, q = cu lt a := ⟨_, rfl⟩; rw [← hq] at HKC hK; have HQ := zaa.mk hq; have HRR := zaa.mk hK; clear hq hK; go_upto_region 2 with (first | (go_at_call 34; refine HKC.out.mono ?_; rintro e w2 ⟨rfl, hb2⟩; have H2 := zaa.mk (I2.out.below hb2); have HV := zaa.mk (IV.out.below hb2); clear hb2 I2 IV HKC) | (go_at_call 46; refine (zaE.calls _ _ _ HRR.out).mono ?_; rintro e w3 ⟨rfl, hd2⟩; have hb2 := hd2.below; clear hd2; have G2 := zaa.mk (H2.out.below hb2); have GV := zaa.mk (HV.out.below hb2); clear hb2 H2 HV))
 have J2 := zaa.mk (G2.out.newv (o := nodeO 53 0 0 (.slice none 0 0))); have JN := zaa.mk (NI.new_ (b := W.heap.size) (okx := okx) (W := W) (r := none) (X := w3) (N := 1) G2.out.fr.size (NV.leaf (k := 53) (w := 0) (wd := 0) (by omega) (by omega) (by omega) (Nat.le_refl _)) (.inl rfl))
 have JV := zaa.mk (GV.out.newv (o := nodeO 53 0 0 (.slice none 0 0))); have HNE := zaa.mk GV.out.zaB; obtain ⟨X1, hX1⟩ : ∃ X1, X1 = w3.alloc (nodeO 53 0 0 (.slice none 0 0)) := ⟨_, rfl⟩; rw [← hX1] at J2 JN JV; change Code.wp Try.prog _ _ _ (w3.alloc (nodeO 53 0 0 (.slice none 0 0)))
 rw [← hX1]; clear hX1 G2 GV; obtain ⟨hla, hlh⟩ := HLE.out; have hlt_ := HLT.out; have hln_ := HLEN.out; obtain ⟨x0, x1, x2, x3⟩ := JN.out.cells; go_upto_region 5 with (go_at_call 50; refine (zbw g A c lt HTO.out a W.heap.size (oky okx w3.heap.size) X1 53 0 0 _ [] 1 J2.out.ps JN.out.nv J2.out.fr.size (fun q hq => J2.out.hg q (J2.out.sub q hq)) J2.out.fresh hlt_ (by omega)).mono ?_; rintro e w11 ⟨wd11, u11, l11, rfl, h1, h2, h3, h4⟩; obtain ⟨A11, c11, rfl, _, _⟩ := Kd.zaQ h2.row; have hp_ := JN.out.vi.same (J2.out.var JN.out.vi h3 (fun q hq => JN.out.nv.row.1 q hq)); have J11_ := zaa.mk ((J2.out.ext JN.out h1 h3).put (k := 53) (w := 0) (wd := wd11) (u := .slice A11 l11.length c11) hp_); have N11_ := zaa.mk (NI.put hp_ h2 (zaK JN.out.near J2.out.fr.size h4)); have hv_ := JV.out.same (J2.out.var JV.out h3 (fun q hq => JN.out.nv.row.1 q hq)); have V11_ := zaa.mk (hv_.put (p := w3.heap.size) (k := 53) (w := 0) (wd := wd11) (u := .slice A11 l11.length c11) (fun e_ => by have := HNE.out; omega)); clear hv_; obtain ⟨z0, z1, z2, z3, hz_⟩ := hp_.at_; have f0 := zab hz_ 0; have f1 := zab hz_ 1; have f2 := zab hz_ 2; have f3 := zab hz_ 3; obtain ⟨⟨d0, d1, d2, d3⟩, dl⟩ := zaD hz_; clear h1 h2 h3 h4 hp_ hz_ x0 x1 x2 x3 J2 JN JV)
 obtain ⟨X11, hX1⟩ : ∃ X1, X1 = putN w11 w3.heap.size 53 0 wd11 (.slice A11 l11.length c11) := ⟨_, rfl⟩; rw [← hX1] at J11_ N11_ V11_; simp only [putN] at hX1; rw [← hX1]; clear hX1 f0 f1 f2 f3 d0 d1 d2 d3 dl; obtain ⟨b11, hb_⟩ : ∃ b_, b_ = hd lt a + 1 := ⟨_, rfl⟩; have hh_ := hd_ge lt a; have b11a : a < b11 := by omega
 have b11l : b11 ≤ lt.length := by omega
 rw [← hb_] at J11_; have n_ := zaa.mk (N11_.out.more (N' := 40 * (b11 - a) - 38) (by omega))
 clear N11_ hb_ hh_; have N11_ := n_; clear n_; obtain ⟨x0, x1, x2, x3⟩ := N11_.out.cells; go_upto_region 6 with (go_at_call 60; refine (zbC g A c lt HTO.out b11 W.heap.size (oky okx w3.heap.size) X11 53 0 wd11 _ l11 (40 * (b11 - a) - 38) 6 (by omega) J11_.out.ps N11_.out.nv J11_.out.fr.size (fun q hq => J11_.out.hg q (J11_.out.sub q hq)) J11_.out.fresh (by omega)).mono ?_; rintro e w12 ⟨b12, b12a, b12l, wd12, u12, l12, rfl, h1, h2, h3, h4⟩; obtain ⟨A12, c12, rfl, _, _⟩ := Kd.zaQ h2.row; have hp_ := N11_.out.vi.same (J11_.out.var N11_.out.vi h3 (fun q hq => N11_.out.nv.row.1 q hq)); have J12_ := zaa.mk ((J11_.out.ext N11_.out h1 h3).put (k := 53) (w := 0) (wd := wd12) (u := .slice A12 l12.length c12) hp_); have N12_ := zaa.mk (NI.put hp_ h2 (zaK N11_.out.near J11_.out.fr.size h4)); have hv_ := V11_.out.same (J11_.out.var V11_.out h3 (fun q hq => N11_.out.nv.row.1 q hq)); have V12_ := zaa.mk (hv_.put (p := w3.heap.size) (k := 53) (w := 0) (wd := wd12) (u := .slice A12 l12.length c12) (fun e_ => by have := HNE.out; omega)); clear hv_; obtain ⟨z0, z1, z2, z3, hz_⟩ := hp_.at_; have f0 := zab hz_ 0; have f1 := zab hz_ 1; have f2 := zab hz_ 2; have f3 := zab hz_ 3; obtain ⟨⟨d0, d1, d2, d3⟩, dl⟩ := zaD hz_; clear h1 h2 h3 h4 hp_ hz_ x0 x1 x2 x3 J11_ N11_ V11_)
 obtain ⟨X12, hX1⟩ : ∃ X1, X1 = putN w12 w3.heap.size 53 0 wd12 (.slice A12 l12.length c12) := ⟨_, rfl⟩; rw [← hX1] at J12_ N12_ V12_; simp only [putN] at hX1; rw [← hX1]; clear hX1 f0 f1 f2 f3 d0 d1 d2 d3 dl; have n_ := zaa.mk (N12_.out.more (N' := 40 * (b12 - a) - 37) (by omega))
 clear N12_; have N12_ := n_; clear n_; obtain ⟨x0, x1, x2, x3⟩ := N12_.out.cells; go_upto_region 7 with (go_at_call 60; refine (zbC g A c lt HTO.out b12 W.heap.size (oky okx w3.heap.size) X12 53 0 wd12 _ l12 (40 * (b12 - a) - 37) 26 (by omega) J12_.out.ps N12_.out.nv J12_.out.fr.size (fun q hq => J12_.out.hg q (J12_.out.sub q hq)) J12_.out.fresh (by omega)).mono ?_; rintro e w13 ⟨b13, b13a, b13l, wd13, u13, l13, rfl, h1, h2, h3, h4⟩; obtain ⟨A13, c13, rfl, _, _⟩ := Kd.zaQ h2.row; have hp_ := N12_.out.vi.same (J12_.out.var N12_.out.vi h3 (fun q hq => N12_.out.nv.row.1 q hq)); have J13_ := zaa.mk ((J12_.out.ext N12_.out h1 h3).put (k := 53) (w := 0) (wd := wd13) (u := .slice A13 l13.length c13) hp_); have N13_ := zaa.mk (NI.put hp_ h2 (zaK N12_.out.near J12_.out.fr.size h4)); have hv_ := V12_.out.same (J12_.out.var V12_.out h3 (fun q hq => N12_.out.nv.row.1 q hq)); have V13_ := zaa.mk (hv_.put (p := w3.heap.size) (k := 53) (w := 0) (wd := wd13) (u := .slice A13 l13.length c13) (fun e_ => by have := HNE.out; omega)); clear hv_; obtain ⟨z0, z1, z2, z3, hz_⟩ := hp_.at_; have f0 := zab hz_ 0; have f1 := zab hz_ 1; have f2 := zab hz_ 2; have f3 := zab hz_ 3; obtain ⟨⟨d0, d1, d2, d3⟩, dl⟩ := zaD hz_; clear h1 h2 h3 h4 hp_ hz_ x0 x1 x2 x3 J12_ N12_ V12_)
 obtain ⟨X13, hX1⟩ : ∃ X1, X1 = putN w13 w3.heap.size 53 0 wd13 (.slice A13 l13.length c13) := ⟨_, rfl⟩; rw [← hX1] at J13_ N13_ V13_; simp only [putN] at hX1; rw [← hX1]; clear hX1 f0 f1 f2 f3 d0 d1 d2 d3 dl; have n_ := zaa.mk (N13_.out.more (N' := 40 * (b13 - a) - 36) (by omega))
 clear N13_; have N13_ := n_; clear n_; obtain ⟨x0, x1, x2, x3⟩ := N13_.out.cells; go_upto_region 8 with (go_at_call 61; refine (HEXP.out b13 (by omega) W.heap.size (oky okx w3.heap.size) X13 53 0 wd13 _ l13 (40 * (b13 - a) - 36) J13_.out.ps N13_.out.nv J13_.out.fr.size (fun q hq => J13_.out.hg q (J13_.out.sub q hq)) J13_.out.fresh (by omega)).mono ?_; rintro e w14 ⟨b14, b14a, b14l, wd14, u14, l14, rfl, h1, h2, h3, h4⟩; obtain ⟨A14, c14, rfl, _, _⟩ := Kd.zaQ h2.row; have hp_ := N13_.out.vi.same (J13_.out.var N13_.out.vi h3 (fun q hq => N13_.out.nv.row.1 q hq)); have J14_ := zaa.mk ((J13_.out.ext N13_.out h1 h3).put (k := 53) (w := 0) (wd := wd14) (u := .slice A14 l14.length c14) hp_); have N14_ := zaa.mk (NI.put hp_ h2 (zaK N13_.out.near J13_.out.fr.size h4)); have hv_ := V13_.out.same (J13_.out.var V13_.out h3 (fun q hq => N13_.out.nv.row.1 q hq)); have V14_ := zaa.mk (hv_.put (p := w3.heap.size) (k := 53) (w := 0) (wd := wd14) (u := .slice A14 l14.length c14) (fun e_ => by have := HNE.out; omega)); clear hv_; obtain ⟨z0, z1, z2, z3, hz_⟩ := hp_.at_; have f0 := zab hz_ 0; have f1 := zab hz_ 1; have f2 := zab hz_ 2; have f3 := zab hz_ 3; obtain ⟨⟨d0, d1, d2, d3⟩, dl⟩ := zaD hz_; clear h1 h2 h3 h4 hp_ hz_ x0 x1 x2 x3 J13_ N13_ V13_)
 obtain ⟨X14, hX1⟩ : ∃ X1, X1 = putN w14 w3.heap.size 53 0 wd14 (.slice A14 l14.length c14) := ⟨_, rfl⟩; rw [← hX1] at J14_ N14_ V14_; simp only [putN] at hX1; rw [← hX1]; clear hX1 f0 f1 f2 f3 d0 d1 d2 d3 dl; have n_ := zaa.mk (N14_.out.more (N' := 40 * (b14 - a) - 35) (by omega))
 clear N14_; have N14_ := n_; clear n_; obtain ⟨x0, x1, x2, x3⟩ := N14_.out.cells; go_wp2_with (go_at_call 60; refine (zbC g A c lt HTO.out b14 W.heap.size (oky okx w3.heap.size) X14 53 0 wd14 _ l14 (40 * (b14 - a) - 35) 25 (by omega) J14_.out.ps N14_.out.nv J14_.out.fr.size (fun q hq => J14_.out.hg q (J14_.out.sub q hq)) J14_.out.fresh (by omega)).mono ?_; rintro e w99 ⟨b9_, b9_a, b9_l, wd99, u99, l99, rfl, h1, h2, h3, h4⟩; obtain ⟨A99, c99, rfl, _, _⟩ := Kd.zaQ h2.row; have hv_ := V14_.out.same (J14_.out.var V14_.out h3 (fun q hq => N14_.out.nv.row.1 q hq)); have HEND := zaa.mk ((J14_.out.ext N14_.out h1 h3).done hv_ h2 (zaK N14_.out.near J14_.out.fr.size h4)); obtain ⟨z0, z1, z2, z3, hz_⟩ := hv_.at_; have HZ := zaa.mk hz_; have f0 := zab hz_ 0; have f1 := zab hz_ 1; have f2 := zab hz_ 2; have f3 := zab hz_ 3; obtain ⟨⟨d0, d1, d2, d3⟩, dl⟩ := zaD hz_; clear h1 h2 h3 h4 hv_ hz_ x0 x1 x2 x3)
 refine bodyPost_ret (zaR (r := .cell 2 27) rfl (.cell (W.heap.size) 27 _ (0, 0) _ rfl (zbe HZ.out) Try.underlying27 rfl (by kernel_rfl) .nil)) rfl ?_
 refine ⟨b9_, by omega, b9_l, ?_⟩
 obtain ⟨wd8, u8, l8, e1, e2, e3, e4, e5⟩ := HEND.out; exact ⟨_, _, wd8, u8, l8, e1, e2, e3.more (by omega), e4⟩
set_option maxHeartbeats 8000000 in
set_option maxRecDepth 100000 in
theorem st_fn (g : Nat) (A : Option Addr) (c : Nat) (lt : List S39) (htk : TkOk lt) (a : Nat) (hK : zaE.f (cu lt a) = some 54) (hbl : ∀ a1, a < a1 → CBlock g A c lt a1) (W : World) (hP : PS W g A c lt a) :
  Calls Try.prog 49 #[.pointer (some ⟨g, 0, none⟩)] W fun e W' => ∃ a', a < a' ∧ a' ≤ lt.length ∧ Ret g A c lt W a' (40 * (a' - a) - 10) e W' := by
 have HTO := zaa.mk htk; have HLT := zaa.mk (cu_lt (stmt_ne hK (by omega)))
 have HLEN := zaa.mk hP.len; have HLE := zaa.mk (And.intro hP.le (hd_ge lt a)); have HBL := zaa.mk hbl; clear htk hbl; have hu := Try.underlying27; go_enter Try.func49, Try.ntmps49
 go_upto_region 1 with (fail)
 obtain ⟨X, hX⟩ : ∃ X, X = W.alloc (nodeO 0 0 0 (.slice none 0 0)) := ⟨_, rfl⟩; obtain ⟨h2, hv⟩ := S2.start1 hP hX; change Code.wp Try.prog _ _ _ (W.alloc (nodeO 0 0 0 (.slice none 0 0)))
 rw [← hX]; generalize oky (fun q => W.heap.size ≤ q) W.heap.size = okx at h2 hv
 have I2 := zaa.mk h2; have IV := zaa.mk hv; clear h2 hv hX hP; have HKC := zaa.mk (za9 g A c lt a X I2.out.ps); obtain ⟨q, hq⟩ : ∃ q, q = cu lt a := ⟨_, rfl⟩; rw [← hq] at HKC hK; have HQ := zaa.mk hq; have HRR := zaa.mk hK; clear hq hK; go_upto_region 2 with (first | (go_at_call 34; refine HKC.out.mono ?_; rintro e w2 ⟨rfl, hb2⟩; have H2 := zaa.mk (I2.out.below hb2); have HV := zaa.mk (IV.out.below hb2); clear hb2 I2 IV HKC) | (go_at_call 46; refine (zaE.calls _ _ _ HRR.out).mono ?_; rintro e w3 ⟨rfl, hd2⟩; have hb2 := hd2.below; clear hd2; have G2 := zaa.mk (H2.out.below hb2); have GV := zaa.mk (HV.out.below hb2); clear hb2 H2 HV))
 have J2 := zaa.mk (G2.out.newv (o := nodeO 54 0 0 (.slice none 0 0))); have JN := zaa.mk (NI.new_ (b := W.heap.size) (okx := okx) (W := W) (r := none) (X := w3) (N := 1) G2.out.fr.size (NV.leaf (k := 54) (w := 0) (wd := 0) (by omega) (by omega) (by omega) (Nat.le_refl _)) (.inl rfl))
 have JV := zaa.mk (GV.out.newv (o := nodeO 54 0 0 (.slice none 0 0))); have HNE := zaa.mk GV.out.zaB; obtain ⟨X1, hX1⟩ : ∃ X1, X1 = w3.alloc (nodeO 54 0 0 (.slice none 0 0)) := ⟨_, rfl⟩; rw [← hX1] at J2 JN JV; change Code.wp Try.prog _ _ _ (w3.alloc (nodeO 54 0 0 (.slice none 0 0)))
 rw [← hX1]; clear hX1 G2 GV; obtain ⟨hla, hlh⟩ := HLE.out; have hlt_ := HLT.out; have hln_ := HLEN.out; obtain ⟨x0, x1, x2, x3⟩ := JN.out.cells; go_upto_region 11 with (go_at_call 50; refine (zbw g A c lt HTO.out a W.heap.size (oky okx w3.heap.size) X1 54 0 0 _ [] 1 J2.out.ps JN.out.nv J2.out.fr.size (fun q hq => J2.out.hg q (J2.out.sub q hq)) J2.out.fresh hlt_ (by omega)).mono ?_; rintro e w11 ⟨wd11, u11, l11, rfl, h1, h2, h3, h4⟩; obtain ⟨A11, c11, rfl, _, _⟩ := Kd.zaQ h2.row; have hp_ := JN.out.vi.same (J2.out.var JN.out.vi h3 (fun q hq => JN.out.nv.row.1 q hq)); have J11_ := zaa.mk ((J2.out.ext JN.out h1 h3).put (k := 54) (w := 0) (wd := wd11) (u := .slice A11 l11.length c11) hp_); have N11_ := zaa.mk (NI.put hp_ h2 (zaK JN.out.near J2.out.fr.size h4)); have hv_ := JV.out.same (J2.out.var JV.out h3 (fun q hq => JN.out.nv.row.1 q hq)); have V11_ := zaa.mk (hv_.put (p := w3.heap.size) (k := 54) (w := 0) (wd := wd11) (u := .slice A11 l11.length c11) (fun e_ => by have := HNE.out; omega)); clear hv_; obtain ⟨z0, z1, z2, z3, hz_⟩ := hp_.at_; have f0 := zab hz_ 0; have f1 := zab hz_ 1; have f2 := zab hz_ 2; have f3 := zab hz_ 3; obtain ⟨⟨d0, d1, d2, d3⟩, dl⟩ := zaD hz_; clear h1 h2 h3 h4 hp_ hz_ x0 x1 x2 x3 J2 JN JV)
 obtain ⟨X11, hX1⟩ : ∃ X1, X1 = putN w11 w3.heap.size 54 0 wd11 (.slice A11 l11.length c11) := ⟨_, rfl⟩; rw [← hX1] at J11_ N11_ V11_; simp only [putN] at hX1; rw [← hX1]; clear hX1 f0 f1 f2 f3 d0 d1 d2 d3 dl; obtain ⟨b11, hb_⟩ : ∃ b_, b_ = hd lt a + 1 := ⟨_, rfl⟩; have hh_ := hd_ge lt a; have b11a : a < b11 := by omega
 have b11l : b11 ≤ lt.length := by omega
 rw [← hb_] at J11_; have n_ := zaa.mk (N11_.out.more (N' := 40 * (b11 - a) - 38) (by omega))
 clear N11_ hb_ hh_; have N11_ := n_; clear n_; obtain ⟨x0, x1, x2, x3⟩ := N11_.out.cells; go_upto_region 12 with (go_at_call 60; refine (zbC g A c lt HTO.out b11 W.heap.size (oky okx w3.heap.size) X11 54 0 wd11 _ l11 (40 * (b11 - a) - 38) 6 (by omega) J11_.out.ps N11_.out.nv J11_.out.fr.size (fun q hq => J11_.out.hg q (J11_.out.sub q hq)) J11_.out.fresh (by omega)).mono ?_; rintro e w12 ⟨b12, b12a, b12l, wd12, u12, l12, rfl, h1, h2, h3, h4⟩; obtain ⟨A12, c12, rfl, _, _⟩ := Kd.zaQ h2.row; have hp_ := N11_.out.vi.same (J11_.out.var N11_.out.vi h3 (fun q hq => N11_.out.nv.row.1 q hq)); have J12_ := zaa.mk ((J11_.out.ext N11_.out h1 h3).put (k := 54) (w := 0) (wd := wd12) (u := .slice A12 l12.length c12) hp_); have N12_ := zaa.mk (NI.put hp_ h2 (zaK N11_.out.near J11_.out.fr.size h4)); have hv_ := V11_.out.same (J11_.out.var V11_.out h3 (fun q hq => N11_.out.nv.row.1 q hq)); have V12_ := zaa.mk (hv_.put (p := w3.heap.size) (k := 54) (w := 0) (wd := wd12) (u := .slice A12 l12.length c12) (fun e_ => by have := HNE.out; omega)); clear hv_; obtain ⟨z0, z1, z2, z3, hz_⟩ := hp_.at_; have f0 := zab hz_ 0; have f1 := zab hz_ 1; have f2 := zab hz_ 2; have f3 := zab hz_ 3; obtain ⟨⟨d0, d1, d2, d3⟩, dl⟩ := zaD hz_; clear h1 h2 h3 h4 hp_ hz_ x0 x1 x2 x3 J11_ N11_ V11_)
 obtain ⟨X12, hX1⟩ : ∃ X1, X1 = putN w12 w3.heap.size 54 0 wd12 (.slice A12 l12.length c12) := ⟨_, rfl⟩; rw [← hX1] at J12_ N12_ V12_; simp only [putN] at hX1; rw [← hX1]; clear hX1 f0 f1 f2 f3 d0 d1 d2 d3 dl; have n_ := zaa.mk (N12_.out.more (N' := 40 * (b12 - a) - 37) (by omega))
 clear N12_; have N12_ := n_; clear n_; have hhl_ := hd_le b12l; obtain ⟨x0, x1, x2, x3⟩ := N12_.out.cells; go_upto_region 13 with (go_at_call 36; refine (zb1 g A c lt HTO.out b12 W.heap.size (oky okx w3.heap.size) X12 54 0 wd12 _ l12 (40 * (b12 - a) - 37) J12_.out.ps N12_.out.nv J12_.out.fr.size (fun q hq => J12_.out.hg q (J12_.out.sub q hq)) J12_.out.fresh (by have := hhl_; omega)).mono ?_; rintro e w13 ⟨wd13, u13, l13, rfl, h1, h2, h3, h4⟩; obtain ⟨A13, c13, rfl, _, _⟩ := Kd.zaQ h2.row; have hp_ := N12_.out.vi.same (J12_.out.var N12_.out.vi h3 (fun q hq => N12_.out.nv.row.1 q hq)); have J13_ := zaa.mk ((J12_.out.ext N12_.out h1 h3).put (k := 54) (w := 0) (wd := wd13) (u := .slice A13 l13.length c13) hp_); have N13_ := zaa.mk (NI.put hp_ h2 (zaK N12_.out.near J12_.out.fr.size h4)); have hv_ := V12_.out.same (J12_.out.var V12_.out h3 (fun q hq => N12_.out.nv.row.1 q hq)); have V13_ := zaa.mk (hv_.put (p := w3.heap.size) (k := 54) (w := 0) (wd := wd13) (u := .slice A13 l13.length c13) (fun e_ => by have := HNE.out; omega)); clear hv_; obtain ⟨z0, z1, z2, z3, hz_⟩ := hp_.at_; have f0 := zab hz_ 0; have f1 := zab hz_ 1; have f2 := zab hz_ 2; have f3 := zab hz_ 3; obtain ⟨⟨d0, d1, d2, d3⟩, dl⟩ := zaD hz_; clear h1 h2 h3 h4 hp_ hz_ x0 x1 x2 x3 J12_ N12_ V12_)
 obtain ⟨X13, hX1⟩ : ∃ X1, X1 = putN w13 w3.heap.size 54 0 wd13 (.slice A13 l13.length c13) := ⟨_, rfl⟩; rw [← hX1] at J13_ N13_ V13_; simp only [putN] at hX1; rw [← hX1]; clear hX1 f0 f1 f2 f3 d0 d1 d2 d3 dl; obtain ⟨b13, hb_⟩ : ∃ b_, b_ = hd lt b12 := ⟨_, rfl⟩; have hh_ := hd_ge lt b12; have b13a : b12 ≤ b13 := by omega
 have b13l : b13 ≤ lt.length := by omega
 rw [← hb_] at J13_; have n_ := zaa.mk (N13_.out.more (N' := 40 * (b13 - a) - 37) (by omega))
 clear N13_ hb_ hh_; have N13_ := n_; clear n_; have HSZ := zaa.mk (show 40 * (b13 - a) - 37 + (40 * (lt.length - b13) + 3) ≤ 899990 by omega)
 have HBW := zaa.mk (Nat.le_refl W.heap.size); have RO := zaa.mk N13_.out.vi; have D2 := zaa.mk (J13_.out.below (Y := X13.drew) (Below.refl _ _).drew); have DN := zaa.mk (N13_.out.below (Y := X13.drew) (Below.refl _ _).drew); have DV := zaa.mk (RO.out.below (Y := X13.drew) (Below.refl _ _).drew); have DQV := zaa.mk (V13_.out.below (Y := X13.drew) (Below.refl _ _).drew); have HS0 := zaa.mk DN.out.cells; clear J13_ N13_ RO V13_; refine wp_region_noPanic (zbx [0, 1, 2, 3] (fun W' => W'.cell? ⟨w3.heap.size, 0, none⟩ = some (.int .u8 54) ∧ W'.cell? ⟨w3.heap.size, 1, none⟩ = some (.int .u8 0) ∧ W'.cell? ⟨w3.heap.size, 2, none⟩ = some (.int .i64 wd13) ∧ W'.cell? ⟨w3.heap.size, 3, none⟩ = some (.slice A13 l13.length c13)) (by kernel_rfl) ?_)
 refine zar 0 (v := ?_) HS0.out ?_ ?_
 rotate_left
 ·(intro W' hW'; obtain ⟨s0, s1, s2, s3⟩ := hW'; go_simp; try rfl)
 simp only [Act.put, zav]; refine zar 1 (v := ?_) HS0.out ?_ ?_
 rotate_left
 ·(intro W' hW'; obtain ⟨s0, s1, s2, s3⟩ := hW'; go_simp; try rfl)
 simp only [Act.put, zav]; refine zaX (i := 2) rfl (by kernel_rfl) (fun K hK => ?_)
 go_simp
 refine (params_calls g A c lt HTO.out b13 X13.drew D2.out.ps).mono ?_
 rintro e w5 ⟨b14, b14a, b14l, k9, w9_, wd9, u9, l9, rfl, p1, p2, p3⟩
 obtain ⟨kA, kc, rfl, _, _⟩ := Kd.zaQ p2.row; have E2 := zaa.mk (D2.out.ret p1 p3); have EN := zaa.mk (NI.ret D2.out DN.out p3); have EV := zaa.mk (VI.ret D2.out DV.out p3); have EQV := zaa.mk (VI.ret D2.out DQV.out p3); have HKID := zaa.mk (kid_nv (b := W.heap.size) (okx := (oky okx w3.heap.size)) p2 (Nat.le_trans HBW.out D2.out.fr.size) D2.out.fresh (fun q hq => Kd.N_lt DN.out.nv.row q hq))
 have HS1 := zaa.mk EN.out.cells; clear p1 p2 p3; refine hK.out _ _ (fun _ => HS1.out) (fun _ => ?_)
 clear hK K; try simp only [Act.put, zav]
 refine zaX (i := 3) rfl (by kernel_rfl) (fun K hK => ?_)
 go_simp
 refine (zb5 W.heap.size (oky okx w3.heap.size) w5 54 0 wd13 _ l13 (40 * (b13 - a) - 37) _ _ _ _ _ _ EN.out.nv (Nat.le_trans HBW.out E2.out.fr.size) E2.out.fresh HKID.out (by have := HSZ.out; omega)).mono ?_
 rintro e w6 ⟨wd6, u6, l6, rfl, h1, h2, h3⟩
 obtain ⟨A6, c6, rfl, _, _⟩ := Kd.zaQ h1.row; have F2 := zaa.mk (E2.out.ext EN.out (E2.out.addps EN.out h2) (Fr.za1 h2)); have hv_ := EV.out.same (E2.out.var EV.out (Fr.za1 h2) (fun q hq => EN.out.nv.row.1 q hq))
 have FN := zaa.mk (EN.out.vi.same (E2.out.var EN.out.vi (Fr.za1 h2) (fun q hq => EN.out.nv.row.1 q hq)))
 have HS2 := zaa.mk ((zaD ((E2.out.var EN.out.vi (Fr.za1 h2) (fun q hq => EN.out.nv.row.1 q hq)).trans EN.out.box)).1)
 have Q2 := zaa.mk (F2.out.put (k := 54) (w := 0) (wd := wd6) (u := .slice A6 l6.length c6) hv_); have QN := zaa.mk (NI.put hv_ h1 (zaK EN.out.near E2.out.fr.size h3)); have QV := zaa.mk ((EQV.out.same (E2.out.var EQV.out (Fr.za1 h2) (fun q hq => EN.out.nv.row.1 q hq))).put (p := w3.heap.size) (k := 54) (w := 0) (wd := wd6) (u := .slice A6 l6.length c6) (fun e_ => by have := HNE.out; omega))
 obtain ⟨z0, z1, z2, z3, hz_⟩ := hv_.at_; have HZ := zaa.mk hz_; have f0 := zab hz_ 0; have f1 := zab hz_ 1; have f2 := zab hz_ 2; have f3 := zab hz_ 3; obtain ⟨⟨d0, d1, d2, d3⟩, dl⟩ := zaD hz_
 clear h1 h2 h3 hv_ hz_; refine hK.out _ _ (fun _ => HS2.out) (fun _ => ?_)
 clear hK K; try simp only [Act.put, zav]
 refine zaX (i := 4) rfl (by kernel_rfl) (fun K hK => ?_)
 go_simp
 refine hK.out _ _ (fun h => Bool.noConfusion (show false = true from h)) (fun _ => ?_)
 clear hK K; try simp only [Act.put, zav]
 refine zbd (by kernel_rfl) (NoPanic.normal ?_) _
 obtain ⟨X14, hX1⟩ : ∃ X1, X1 = putN w6 w3.heap.size 54 0 wd6 (.slice A6 l6.length c6) := ⟨_, rfl⟩; rw [← hX1] at Q2 QN QV; simp only [putN] at hX1; rw [← hX1]; clear hX1 f0 f1 f2 f3 d0 d1 d2 d3 dl; have n_ := zaa.mk (QN.out.more (N' := 40 * (b14 - a) - 34) (by omega))
 clear QN; have QN := n_; clear n_; go_upto_region 14 with (fail)
 obtain ⟨x0, x1, x2, x3⟩ := QN.out.cells; go_wp2_with (go_at_call 63; refine (HBL.out b14 (by omega) W.heap.size (oky okx w3.heap.size) X14 54 0 wd6 _ l6 (40 * (b14 - a) - 34) Q2.out.ps QN.out.nv Q2.out.fr.size (fun q hq => Q2.out.hg q (Q2.out.sub q hq)) Q2.out.fresh (by omega)).mono ?_; rintro e w99 ⟨b9_, b9_a, b9_l, wd99, u99, l99, rfl, h1, h2, h3, h4⟩; obtain ⟨A99, c99, rfl, _, _⟩ := Kd.zaQ h2.row; have hv_ := QV.out.same (Q2.out.var QV.out h3 (fun q hq => QN.out.nv.row.1 q hq)); have HEND := zaa.mk ((Q2.out.ext QN.out h1 h3).done hv_ h2 (zaK QN.out.near Q2.out.fr.size h4)); obtain ⟨z0, z1, z2, z3, hz_⟩ := hv_.at_; have HZ := zaa.mk hz_; have f0 := zab hz_ 0; have f1 := zab hz_ 1; have f2 := zab hz_ 2; have f3 := zab hz_ 3; obtain ⟨⟨d0, d1, d2, d3⟩, dl⟩ := zaD hz_; clear h1 h2 h3 h4 hv_ hz_ x0 x1 x2 x3)
 refine bodyPost_ret (zaR (r := .cell 2 27) rfl (.cell (W.heap.size) 27 _ (0, 0) _ rfl (zbe HZ.out) Try.underlying27 rfl (by kernel_rfl) .nil)) rfl ?_
 refine ⟨b9_, by omega, b9_l, ?_⟩
 obtain ⟨wd8, u8, l8, e1, e2, e3, e4, e5⟩ := HEND.out; exact ⟨_, _, wd8, u8, l8, e1, e2, e3.more (by omega), e4⟩
set_option maxHeartbeats 8000000 in
set_option maxRecDepth 100000 in
theorem st_if (g : Nat) (A : Option Addr) (c : Nat) (lt : List S39) (htk : TkOk lt) (a : Nat) (hK : zaE.f (cu lt a) = some 56) (hexp : ∀ a1, a < a1 → CExpr g A c lt a1) (hbl : ∀ a1, a < a1 → CBlock g A c lt a1) (hst : ∀ a1, a < a1 → CStatement g A c lt a1) (W : World) (hP : PS W g A c lt a) :
  Calls Try.prog 49 #[.pointer (some ⟨g, 0, none⟩)] W fun e W' => ∃ a', a < a' ∧ a' ≤ lt.length ∧ Ret g A c lt W a' (40 * (a' - a) - 10) e W' := by
 have HTO := zaa.mk htk; have HLT := zaa.mk (cu_lt (stmt_ne hK (by omega)))
 have HLEN := zaa.mk hP.len; have HLE := zaa.mk (And.intro hP.le (hd_ge lt a)); have HEXP := zaa.mk hexp; have HBL := zaa.mk hbl; have HST := zaa.mk hst; clear htk hexp hbl hst; have hu := Try.underlying27; go_enter Try.func49, Try.ntmps49
 go_upto_region 1 with (fail)
 obtain ⟨X, hX⟩ : ∃ X, X = W.alloc (nodeO 0 0 0 (.slice none 0 0)) := ⟨_, rfl⟩; obtain ⟨h2, hv⟩ := S2.start1 hP hX; change Code.wp Try.prog _ _ _ (W.alloc (nodeO 0 0 0 (.slice none 0 0)))
 rw [← hX]; generalize oky (fun q => W.heap.size ≤ q) W.heap.size = okx at h2 hv
 have I2 := zaa.mk h2; have IV := zaa.mk hv; clear h2 hv hX hP; have HKC := zaa.mk (za9 g A c lt a X I2.out.ps); obtain ⟨q, hq⟩ : ∃ q, q = cu lt a := ⟨_, rfl⟩; rw [← hq] at HKC hK; have HQ := zaa.mk hq; have HRR := zaa.mk hK; clear hq hK; go_upto_region 2 with (first | (go_at_call 34; refine HKC.out.mono ?_; rintro e w2 ⟨rfl, hb2⟩; have H2 := zaa.mk (I2.out.below hb2); have HV := zaa.mk (IV.out.below hb2); clear hb2 I2 IV HKC) | (go_at_call 46; refine (zaE.calls _ _ _ HRR.out).mono ?_; rintro e w3 ⟨rfl, hd2⟩; have hb2 := hd2.below; clear hd2; have G2 := zaa.mk (H2.out.below hb2); have GV := zaa.mk (HV.out.below hb2); clear hb2 H2 HV))
 have J2 := zaa.mk (G2.out.newv (o := nodeO 56 0 0 (.slice none 0 0))); have JN := zaa.mk (NI.new_ (b := W.heap.size) (okx := okx) (W := W) (r := none) (X := w3) (N := 1) G2.out.fr.size (NV.leaf (k := 56) (w := 0) (wd := 0) (by omega) (by omega) (by omega) (Nat.le_refl _)) (.inl rfl))
 have JV := zaa.mk (GV.out.newv (o := nodeO 56 0 0 (.slice none 0 0))); have HNE := zaa.mk GV.out.zaB; obtain ⟨X1, hX1⟩ : ∃ X1, X1 = w3.alloc (nodeO 56 0 0 (.slice none 0 0)) := ⟨_, rfl⟩; rw [← hX1] at J2 JN JV; change Code.wp Try.prog _ _ _ (w3.alloc (nodeO 56 0 0 (.slice none 0 0)))
 rw [← hX1]; clear hX1 G2 GV; obtain ⟨hla, hlh⟩ := HLE.out; have hlt_ := HLT.out; have hln_ := HLEN.out; obtain ⟨x0, x1, x2, x3⟩ := JN.out.cells; go_upto_region 17 with (go_at_call 50; refine (zbw g A c lt HTO.out a W.heap.size (oky okx w3.heap.size) X1 56 0 0 _ [] 1 J2.out.ps JN.out.nv J2.out.fr.size (fun q hq => J2.out.hg q (J2.out.sub q hq)) J2.out.fresh hlt_ (by omega)).mono ?_; rintro e w11 ⟨wd11, u11, l11, rfl, h1, h2, h3, h4⟩; obtain ⟨A11, c11, rfl, _, _⟩ := Kd.zaQ h2.row; have hp_ := JN.out.vi.same (J2.out.var JN.out.vi h3 (fun q hq => JN.out.nv.row.1 q hq)); have J11_ := zaa.mk ((J2.out.ext JN.out h1 h3).put (k := 56) (w := 0) (wd := wd11) (u := .slice A11 l11.length c11) hp_); have N11_ := zaa.mk (NI.put hp_ h2 (zaK JN.out.near J2.out.fr.size h4)); have hv_ := JV.out.same (J2.out.var JV.out h3 (fun q hq => JN.out.nv.row.1 q hq)); have V11_ := zaa.mk (hv_.put (p := w3.heap.size) (k := 56) (w := 0) (wd := wd11) (u := .slice A11 l11.length c11) (fun e_ => by have := HNE.out; omega)); clear hv_; obtain ⟨z0, z1, z2, z3, hz_⟩ := hp_.at_; have f0 := zab hz_ 0; have f1 := zab hz_ 1; have f2 := zab hz_ 2; have f3 := zab hz_ 3; obtain ⟨⟨d0, d1, d2, d3⟩, dl⟩ := zaD hz_; clear h1 h2 h3 h4 hp_ hz_ x0 x1 x2 x3 J2 JN JV)
 obtain ⟨X11, hX1⟩ : ∃ X1, X1 = putN w11 w3.heap.size 56 0 wd11 (.slice A11 l11.length c11) := ⟨_, rfl⟩; rw [← hX1] at J11_ N11_ V11_; simp only [putN] at hX1; rw [← hX1]; clear hX1 f0 f1 f2 f3 d0 d1 d2 d3 dl; obtain ⟨b11, hb_⟩ : ∃ b_, b_ = hd lt a + 1 := ⟨_, rfl⟩; have hh_ := hd_ge lt a; have b11a : a < b11 := by omega
 have b11l : b11 ≤ lt.length := by omega
 rw [← hb_] at J11_; have n_ := zaa.mk (N11_.out.more (N' := 40 * (b11 - a) - 38) (by omega))
 clear N11_ hb_ hh_; have N11_ := n_; clear n_; obtain ⟨x0, x1, x2, x3⟩ := N11_.out.cells; go_upto_region 18 with (go_at_call 61; refine (HEXP.out b11 (by omega) W.heap.size (oky okx w3.heap.size) X11 56 0 wd11 _ l11 (40 * (b11 - a) - 38) J11_.out.ps N11_.out.nv J11_.out.fr.size (fun q hq => J11_.out.hg q (J11_.out.sub q hq)) J11_.out.fresh (by omega)).mono ?_; rintro e w12 ⟨b12, b12a, b12l, wd12, u12, l12, rfl, h1, h2, h3, h4⟩; obtain ⟨A12, c12, rfl, _, _⟩ := Kd.zaQ h2.row; have hp_ := N11_.out.vi.same (J11_.out.var N11_.out.vi h3 (fun q hq => N11_.out.nv.row.1 q hq)); have J12_ := zaa.mk ((J11_.out.ext N11_.out h1 h3).put (k := 56) (w := 0) (wd := wd12) (u := .slice A12 l12.length c12) hp_); have N12_ := zaa.mk (NI.put hp_ h2 (zaK N11_.out.near J11_.out.fr.size h4)); have hv_ := V11_.out.same (J11_.out.var V11_.out h3 (fun q hq => N11_.out.nv.row.1 q hq)); have V12_ := zaa.mk (hv_.put (p := w3.heap.size) (k := 56) (w := 0) (wd := wd12) (u := .slice A12 l12.length c12) (fun e_ => by have := HNE.out; omega)); clear hv_; obtain ⟨z0, z1, z2, z3, hz_⟩ := hp_.at_; have f0 := zab hz_ 0; have f1 := zab hz_ 1; have f2 := zab hz_ 2; have f3 := zab hz_ 3; obtain ⟨⟨d0, d1, d2, d3⟩, dl⟩ := zaD hz_; clear h1 h2 h3 h4 hp_ hz_ x0 x1 x2 x3 J11_ N11_ V11_)
 obtain ⟨X12, hX1⟩ : ∃ X1, X1 = putN w12 w3.heap.size 56 0 wd12 (.slice A12 l12.length c12) := ⟨_, rfl⟩; rw [← hX1] at J12_ N12_ V12_; simp only [putN] at hX1; rw [← hX1]; clear hX1 f0 f1 f2 f3 d0 d1 d2 d3 dl; have n_ := zaa.mk (N12_.out.more (N' := 40 * (b12 - a) - 37) (by omega))
 clear N12_; have N12_ := n_; clear n_; obtain ⟨x0, x1, x2, x3⟩ := N12_.out.cells; go_upto_region 19 with (go_at_call 63; refine (HBL.out b12 (by omega) W.heap.size (oky okx w3.heap.size) X12 56 0 wd12 _ l12 (40 * (b12 - a) - 37) J12_.out.ps N12_.out.nv J12_.out.fr.size (fun q hq => J12_.out.hg q (J12_.out.sub q hq)) J12_.out.fresh (by omega)).mono ?_; rintro e w13 ⟨b13, b13a, b13l, wd13, u13, l13, rfl, h1, h2, h3, h4⟩; obtain ⟨A13, c13, rfl, _, _⟩ := Kd.zaQ h2.row; have hp_ := N12_.out.vi.same (J12_.out.var N12_.out.vi h3 (fun q hq => N12_.out.nv.row.1 q hq)); have J13_ := zaa.mk ((J12_.out.ext N12_.out h1 h3).put (k := 56) (w := 0) (wd := wd13) (u := .slice A13 l13.length c13) hp_); have N13_ := zaa.mk (NI.put hp_ h2 (zaK N12_.out.near J12_.out.fr.size h4)); have hv_ := V12_.out.same (J12_.out.var V12_.out h3 (fun q hq => N12_.out.nv.row.1 q hq)); have V13_ := zaa.mk (hv_.put (p := w3.heap.size) (k := 56) (w := 0) (wd := wd13) (u := .slice A13 l13.length c13) (fun e_ => by have := HNE.out; omega)); clear hv_; obtain ⟨z0, z1, z2, z3, hz_⟩ := hp_.at_; have f0 := zab hz_ 0; have f1 := zab hz_ 1; have f2 := zab hz_ 2; have f3 := zab hz_ 3; obtain ⟨⟨d0, d1, d2, d3⟩, dl⟩ := zaD hz_; clear h1 h2 h3 h4 hp_ hz_ x0 x1 x2 x3 J12_ N12_ V12_)
 obtain ⟨X13, hX1⟩ : ∃ X1, X1 = putN w13 w3.heap.size 56 0 wd13 (.slice A13 l13.length c13) := ⟨_, rfl⟩; rw [← hX1] at J13_ N13_ V13_; simp only [putN] at hX1; rw [← hX1]; clear hX1 f0 f1 f2 f3 d0 d1 d2 d3 dl; have n_ := zaa.mk (N13_.out.more (N' := 40 * (b13 - a) - 36) (by omega))
 clear N13_; have N13_ := n_; clear n_; have HKC_ := zaa.mk (za9 g A c lt b13 X13 J13_.out.ps); obtain ⟨q_, hq_⟩ : ∃ q_, q_ = cu lt b13 := ⟨_, rfl⟩; rw [← hq_] at HKC_; have HQ_ := zaa.mk hq_; clear hq_; by_cases hq13 : q_ = 13
 case neg =>
  have d13 : (q_ != 13) = true := by simp [hq13]
  clear hq13; go_upto_region 20 with (go_at_call 34; refine HKC_.out.mono ?_; rintro e w14 ⟨rfl, hb2⟩; have J14_ := zaa.mk (J13_.out.below hb2); have N14_ := zaa.mk (N13_.out.below hb2); have V14_ := zaa.mk (V13_.out.below hb2); clear hb2 J13_ N13_ V13_ HKC_)
  obtain ⟨x0, x1, x2, x3⟩ := N14_.out.cells; have HEND := zaa.mk (J14_.out.done V14_.out N14_.out.nv N14_.out.near); obtain ⟨z0, z1, z2, z3, hz_⟩ := V14_.out.at_; have HZ := zaa.mk hz_; have f0 := zab hz_ 0; have f1 := zab hz_ 1; have f2 := zab hz_ 2; have f3 := zab hz_ 3; obtain ⟨⟨d0, d1, d2, d3⟩, dl⟩ := zaD hz_
  clear hz_; go_wp2
  refine bodyPost_ret (zaR (r := .cell 2 27) rfl (.cell (W.heap.size) 27 _ (0, 0) _ rfl (zbe HZ.out) Try.underlying27 rfl (by kernel_rfl) .nil)) rfl ?_
  refine ⟨b13, by omega, b13l, ?_⟩
  obtain ⟨wd8, u8, l8, e1, e2, e3, e4, e5⟩ := HEND.out; exact ⟨_, _, wd8, u8, l8, e1, e2, e3.more (by omega), e4⟩
 case pos =>
  have d13 : (q_ != 13) = false := by simp [hq13]
  have hlt2_ := cu_lt (l := lt) (by rw [← HQ_.out, hq13]; omega)
  clear hq13; go_upto_region 21 with (go_at_call 34; refine HKC_.out.mono ?_; rintro e w14 ⟨rfl, hb2⟩; have J14_ := zaa.mk (J13_.out.below hb2); have N14_ := zaa.mk (N13_.out.below hb2); have V14_ := zaa.mk (V13_.out.below hb2); clear hb2 J13_ N13_ V13_ HKC_)
  obtain ⟨x0, x1, x2, x3⟩ := N14_.out.cells; go_upto_region 22 with (go_at_call 50; refine (zbw g A c lt HTO.out b13 W.heap.size (oky okx w3.heap.size) w14 56 0 wd13 _ l13 (40 * (b13 - a) - 36) J14_.out.ps N14_.out.nv J14_.out.fr.size (fun q hq => J14_.out.hg q (J14_.out.sub q hq)) J14_.out.fresh hlt2_ (by omega)).mono ?_; rintro e w15 ⟨wd15, u15, l15, rfl, h1, h2, h3, h4⟩; obtain ⟨A15, c15, rfl, _, _⟩ := Kd.zaQ h2.row; have hp_ := N14_.out.vi.same (J14_.out.var N14_.out.vi h3 (fun q hq => N14_.out.nv.row.1 q hq)); have J15_ := zaa.mk ((J14_.out.ext N14_.out h1 h3).put (k := 56) (w := 0) (wd := wd15) (u := .slice A15 l15.length c15) hp_); have N15_ := zaa.mk (NI.put hp_ h2 (zaK N14_.out.near J14_.out.fr.size h4)); have hv_ := V14_.out.same (J14_.out.var V14_.out h3 (fun q hq => N14_.out.nv.row.1 q hq)); have V15_ := zaa.mk (hv_.put (p := w3.heap.size) (k := 56) (w := 0) (wd := wd15) (u := .slice A15 l15.length c15) (fun e_ => by have := HNE.out; omega)); clear hv_; obtain ⟨z0, z1, z2, z3, hz_⟩ := hp_.at_; have f0 := zab hz_ 0; have f1 := zab hz_ 1; have f2 := zab hz_ 2; have f3 := zab hz_ 3; obtain ⟨⟨d0, d1, d2, d3⟩, dl⟩ := zaD hz_; clear h1 h2 h3 h4 hp_ hz_ x0 x1 x2 x3 J14_ N14_ V14_)
  obtain ⟨X15, hX1⟩ : ∃ X1, X1 = putN w15 w3.heap.size 56 0 wd15 (.slice A15 l15.length c15) := ⟨_, rfl⟩; rw [← hX1] at J15_ N15_ V15_; simp only [putN] at hX1; rw [← hX1]; clear hX1 f0 f1 f2 f3 d0 d1 d2 d3 dl; obtain ⟨b15, hb_⟩ : ∃ b_, b_ = hd lt b13 + 1 := ⟨_, rfl⟩; have hh_ := hd_ge lt b13; have b15a : b13 < b15 := by omega
  have b15l : b15 ≤ lt.length := by omega
  rw [← hb_] at J15_; have n_ := zaa.mk (N15_.out.more (N' := 40 * (b15 - a) - 36) (by omega))
  clear N15_ hb_ hh_; have N15_ := n_; clear n_; clear HQ_ hlt2_; have HKC_ := zaa.mk (za9 g A c lt b15 X15 J15_.out.ps); obtain ⟨q_, hq_⟩ : ∃ q_, q_ = cu lt b15 := ⟨_, rfl⟩; rw [← hq_] at HKC_; have HQ_ := zaa.mk hq_; clear hq_; by_cases hq12 : q_ = 12
  case neg =>
   have d12 : (q_ != 12) = true := by simp [hq12]
   clear hq12; go_upto_region 23 with (go_at_call 34; refine HKC_.out.mono ?_; rintro e w16 ⟨rfl, hb2⟩; have J16_ := zaa.mk (J15_.out.below hb2); have N16_ := zaa.mk (N15_.out.below hb2); have V16_ := zaa.mk (V15_.out.below hb2); clear hb2 J15_ N15_ V15_ HKC_)
   obtain ⟨x0, x1, x2, x3⟩ := N16_.out.cells; go_wp2_with (go_at_call 63; refine (HBL.out b15 (by omega) W.heap.size (oky okx w3.heap.size) w16 56 0 wd15 _ l15 (40 * (b15 - a) - 36) J16_.out.ps N16_.out.nv J16_.out.fr.size (fun q hq => J16_.out.hg q (J16_.out.sub q hq)) J16_.out.fresh (by omega)).mono ?_; rintro e w99 ⟨b9_, b9_a, b9_l, wd99, u99, l99, rfl, h1, h2, h3, h4⟩; obtain ⟨A99, c99, rfl, _, _⟩ := Kd.zaQ h2.row; have hv_ := V16_.out.same (J16_.out.var V16_.out h3 (fun q hq => N16_.out.nv.row.1 q hq)); have HEND := zaa.mk ((J16_.out.ext N16_.out h1 h3).done hv_ h2 (zaK N16_.out.near J16_.out.fr.size h4)); obtain ⟨z0, z1, z2, z3, hz_⟩ := hv_.at_; have HZ := zaa.mk hz_; have f0 := zab hz_ 0; have f1 := zab hz_ 1; have f2 := zab hz_ 2; have f3 := zab hz_ 3; obtain ⟨⟨d0, d1, d2, d3⟩, dl⟩ := zaD hz_; clear h1 h2 h3 h4 hv_ hz_ x0 x1 x2 x3)
   refine bodyPost_ret (zaR (r := .cell 2 27) rfl (.cell (W.heap.size) 27 _ (0, 0) _ rfl (zbe HZ.out) Try.underlying27 rfl (by kernel_rfl) .nil)) rfl ?_
   refine ⟨b9_, by omega, b9_l, ?_⟩
   obtain ⟨wd8, u8, l8, e1, e2, e3, e4, e5⟩ := HEND.out; exact ⟨_, _, wd8, u8, l8, e1, e2, e3.more (by omega), e4⟩
  case pos =>
   have d12 : (q_ != 12) = false := by simp [hq12]
   have hlt3_ := cu_lt (l := lt) (by rw [← HQ_.out, hq12]; omega)
   have HS0_ := zaa.mk (show ∃ r, zaE.f (cu lt (hd lt b15)) = some r ∧ r ≠ 0 from ⟨56, by rw [cu_hd, ← HQ_.out, hq12]; rfl, by omega⟩)
   have HHD := zaa.mk (hd_hd lt b15); clear hq12; go_upto_region 24 with (go_at_call 34; refine HKC_.out.mono ?_; rintro e w16 ⟨rfl, hb2⟩; have J16_ := zaa.mk (J15_.out.below hb2); have N16_ := zaa.mk (N15_.out.below hb2); have V16_ := zaa.mk (V15_.out.below hb2); clear hb2 J15_ N15_ V15_ HKC_)
   obtain ⟨x0, x1, x2, x3⟩ := N16_.out.cells; go_upto_region 25 with (go_at_call 36; refine (zb1 g A c lt HTO.out b15 W.heap.size (oky okx w3.heap.size) w16 56 0 wd15 _ l15 (40 * (b15 - a) - 36) J16_.out.ps N16_.out.nv J16_.out.fr.size (fun q hq => J16_.out.hg q (J16_.out.sub q hq)) J16_.out.fresh (by have := hd_le b15l; omega)).mono ?_; rintro e w17 ⟨wd17, u17, l17, rfl, h1, h2, h3, h4⟩; obtain ⟨A17, c17, rfl, _, _⟩ := Kd.zaQ h2.row; have hp_ := N16_.out.vi.same (J16_.out.var N16_.out.vi h3 (fun q hq => N16_.out.nv.row.1 q hq)); have J17_ := zaa.mk ((J16_.out.ext N16_.out h1 h3).put (k := 56) (w := 0) (wd := wd17) (u := .slice A17 l17.length c17) hp_); have N17_ := zaa.mk (NI.put hp_ h2 (zaK N16_.out.near J16_.out.fr.size h4)); have hv_ := V16_.out.same (J16_.out.var V16_.out h3 (fun q hq => N16_.out.nv.row.1 q hq)); have V17_ := zaa.mk (hv_.put (p := w3.heap.size) (k := 56) (w := 0) (wd := wd17) (u := .slice A17 l17.length c17) (fun e_ => by have := HNE.out; omega)); clear hv_; obtain ⟨z0, z1, z2, z3, hz_⟩ := hp_.at_; have f0 := zab hz_ 0; have f1 := zab hz_ 1; have f2 := zab hz_ 2; have f3 := zab hz_ 3; obtain ⟨⟨d0, d1, d2, d3⟩, dl⟩ := zaD hz_; clear h1 h2 h3 h4 hp_ hz_ x0 x1 x2 x3 J16_ N16_ V16_)
   obtain ⟨X17, hX1⟩ : ∃ X1, X1 = putN w17 w3.heap.size 56 0 wd17 (.slice A17 l17.length c17) := ⟨_, rfl⟩; rw [← hX1] at J17_ N17_ V17_; simp only [putN] at hX1; rw [← hX1]; clear hX1 f0 f1 f2 f3 d0 d1 d2 d3 dl; obtain ⟨b17, hb_⟩ : ∃ b_, b_ = hd lt b15 := ⟨_, rfl⟩; have hh_ := hd_ge lt b15; have b17a : b15 ≤ b17 := by omega
   have b17l : b17 ≤ lt.length := by omega
   rw [← hb_] at HS0_ HHD hlt3_ J17_; have n_ := zaa.mk (N17_.out.more (N' := 40 * (b17 - a) - 36) (by omega))
   clear N17_ hb_ hh_; have N17_ := n_; clear n_; obtain ⟨x0, x1, x2, x3⟩ := N17_.out.cells; go_upto_region 26 with (go_at_call 47; refine (taken_calls g A c lt b17 W.heap.size (oky okx w3.heap.size) X17 56 0 wd17 _ l17 (40 * (b17 - a) - 36) 59 J17_.out.ps N17_.out.nv (fun q hq => J17_.out.hg q (J17_.out.sub q hq))).mono ?_; rintro e w30 ⟨rfl, h1, h2, h3⟩; have K2 := zaa.mk (J17_.out.ext N17_.out h1 h3); have KN := zaa.mk (N17_.out.kept (J17_.out.var N17_.out.vi h3 (fun q hq => N17_.out.nv.row.1 q hq)) h2); have KV := zaa.mk (V17_.out.same (J17_.out.var V17_.out h3 (fun q hq => N17_.out.nv.row.1 q hq))); clear h1 h2 h3 x0 x1 x2 x3 J17_ N17_ V17_)
   have n_ := zaa.mk (K2.out.newv (o := nodeO 56 0 wd17 (.slice A17 l17.length c17))); clear K2; have K2 := n_; clear n_; have n_ := zaa.mk (KN.out.newv (o := nodeO 56 0 wd17 (.slice A17 l17.length c17))); clear KN; have KN := n_; clear n_; have n_ := zaa.mk (KV.out.newv (o := nodeO 56 0 wd17 (.slice A17 l17.length c17))); clear KV; have KV := n_; clear n_; obtain ⟨Y, hX1⟩ : ∃ X1, X1 = w30.alloc (nodeO 56 0 wd17 (.slice A17 l17.length c17)) := ⟨_, rfl⟩; rw [← hX1] at K2 KN KV; change Code.wp Try.prog _ _ _ (w30.alloc (nodeO 56 0 wd17 (.slice A17 l17.length c17)))
   rw [← hX1]; clear hX1; obtain ⟨x0, x1, x2, x3⟩ := KN.out.cells; go_upto_region 28 with (fail)
   clear x0 x1 x2 x3; have HSZ := zaa.mk (show 40 * (b17 - a) - 36 + (40 * (lt.length - b17)) ≤ 899990 by omega)
   have HBW := zaa.mk (Nat.le_refl W.heap.size); have D2 := zaa.mk (K2.out.below (Y := Y.drew) (Below.refl _ _).drew); have DN := zaa.mk (KN.out.below (Y := Y.drew) (Below.refl _ _).drew); have DV := zaa.mk (KV.out.below (Y := Y.drew) (Below.refl _ _).drew); have HS0 := zaa.mk DN.out.cells; clear K2 KN KV; refine wp_region_noPanic (zbx [0, 1, 2, 3] (fun W' => W'.cell? ⟨w3.heap.size, 0, none⟩ = some (.int .u8 56) ∧ W'.cell? ⟨w3.heap.size, 1, none⟩ = some (.int .u8 0) ∧ W'.cell? ⟨w3.heap.size, 2, none⟩ = some (.int .i64 wd17) ∧ W'.cell? ⟨w3.heap.size, 3, none⟩ = some (.slice A17 l17.length c17)) (by kernel_rfl) ?_)
   refine zar 0 (v := ?_) HS0.out ?_ ?_
   rotate_left
   ·(intro W' hW'; obtain ⟨s0, s1, s2, s3⟩ := hW'; go_simp; try rfl)
   simp only [Act.put, zav]; refine zar 1 (v := ?_) HS0.out ?_ ?_
   rotate_left
   ·(intro W' hW'; obtain ⟨s0, s1, s2, s3⟩ := hW'; go_simp; try rfl)
   simp only [Act.put, zav]; refine zaX (i := 2) rfl (by kernel_rfl) (fun K hK => ?_)
   go_simp
   refine (HST.out b17 (by omega) Y.drew D2.out.ps HS0_.out).mono ?_
   rintro e w5 ⟨b9_, b9_a, b9_l, k9, w9_, wd9, u9, l9, rfl, p1, p2, p3⟩
   obtain ⟨kA, kc, rfl, _, _⟩ := Kd.zaQ p2.row; have E2 := zaa.mk (D2.out.ret p1 p3); have EN := zaa.mk (NI.ret D2.out DN.out p3); have EV := zaa.mk (VI.ret D2.out DV.out p3); have HKID := zaa.mk (kid_nv (b := W.heap.size) (okx := (oky (oky okx w3.heap.size) w30.heap.size)) p2 (Nat.le_trans HBW.out D2.out.fr.size) D2.out.fresh (fun q hq => Kd.N_lt DN.out.nv.row q hq))
   have HS1 := zaa.mk EN.out.cells; clear p1 p2 p3; refine hK.out _ _ (fun _ => HS1.out) (fun _ => ?_)
   clear hK K; try simp only [Act.put, zav]
   refine zaX (i := 3) rfl (by kernel_rfl) (fun K hK => ?_)
   go_simp
   refine (zb5 W.heap.size (oky (oky okx w3.heap.size) w30.heap.size) w5 56 0 wd17 _ l17 (40 * (b17 - a) - 36) _ _ _ _ _ _ EN.out.nv (Nat.le_trans HBW.out E2.out.fr.size) E2.out.fresh HKID.out (by have := HSZ.out; omega)).mono ?_
   rintro e w6 ⟨wd6, u6, l6, rfl, h1, h2, h3⟩
   obtain ⟨A6, c6, rfl, _, _⟩ := Kd.zaQ h1.row; have F2 := zaa.mk (E2.out.ext EN.out (E2.out.addps EN.out h2) (Fr.za1 h2)); have hv_ := EV.out.same (E2.out.var EV.out (Fr.za1 h2) (fun q hq => EN.out.nv.row.1 q hq))
   have FN := zaa.mk (EN.out.vi.same (E2.out.var EN.out.vi (Fr.za1 h2) (fun q hq => EN.out.nv.row.1 q hq)))
   have HS2 := zaa.mk ((zaD ((E2.out.var EN.out.vi (Fr.za1 h2) (fun q hq => EN.out.nv.row.1 q hq)).trans EN.out.box)).1)
   have HEND := zaa.mk (F2.out.done hv_ h1 (zaK EN.out.near E2.out.fr.size h3)); obtain ⟨z0, z1, z2, z3, hz_⟩ := hv_.at_; have HZ := zaa.mk hz_; have f0 := zab hz_ 0; have f1 := zab hz_ 1; have f2 := zab hz_ 2; have f3 := zab hz_ 3; obtain ⟨⟨d0, d1, d2, d3⟩, dl⟩ := zaD hz_
   clear h1 h2 h3 hv_ hz_; refine hK.out _ _ (fun _ => HS2.out) (fun _ => ?_)
   clear hK K; try simp only [Act.put, zav]
   refine zaX (i := 4) rfl (by kernel_rfl) (fun K hK => ?_)
   go_simp
   refine hK.out _ _ (fun h => Bool.noConfusion (show false = true from h)) (fun _ => ?_)
   clear hK K; try simp only [Act.put, zav]
   refine zbd (by kernel_rfl) (NoPanic.normal ?_) _
   clear d0 d1 d2 d3 dl f0 f1 f2 f3; go_wp2
   refine bodyPost_ret (zaR (r := .cell 2 27) rfl (.cell (W.heap.size) 27 _ (0, 0) _ rfl (zbe HZ.out) Try.underlying27 rfl (by kernel_rfl) .nil)) rfl ?_
   refine ⟨b9_, by omega, b9_l, ?_⟩
   obtain ⟨wd8, u8, l8, e1, e2, e3, e4, e5⟩ := HEND.out; exact ⟨_, _, wd8, u8, l8, e1, e2, e3.more (by omega), e4⟩
set_option maxHeartbeats 8000000 in
set_option maxRecDepth 100000 in
theorem st_while (g : Nat) (A : Option Addr) (c : Nat) (lt : List S39) (htk : TkOk lt) (a : Nat) (hK : zaE.f (cu lt a) = some 57) (hexp : ∀ a1, a < a1 → CExpr g A c lt a1) (hbl : ∀ a1, a < a1 → CBlock g A c lt a1) (W : World) (hP : PS W g A c lt a) :
  Calls Try.prog 49 #[.pointer (some ⟨g, 0, none⟩)] W fun e W' => ∃ a', a < a' ∧ a' ≤ lt.length ∧ Ret g A c lt W a' (40 * (a' - a) - 10) e W' := by
 have HTO := zaa.mk htk; have HLT := zaa.mk (cu_lt (stmt_ne hK (by omega)))
 have HLEN := zaa.mk hP.len; have HLE := zaa.mk (And.intro hP.le (hd_ge lt a)); have HEXP := zaa.mk hexp; have HBL := zaa.mk hbl; clear htk hexp hbl; have hu := Try.underlying27; go_enter Try.func49, Try.ntmps49
 go_upto_region 1 with (fail)
 obtain ⟨X, hX⟩ : ∃ X, X = W.alloc (nodeO 0 0 0 (.slice none 0 0)) := ⟨_, rfl⟩; obtain ⟨h2, hv⟩ := S2.start1 hP hX; change Code.wp Try.prog _ _ _ (W.alloc (nodeO 0 0 0 (.slice none 0 0)))
 rw [← hX]; generalize oky (fun q => W.heap.size ≤ q) W.heap.size = okx at h2 hv
 have I2 := zaa.mk h2; have IV := zaa.mk hv; clear h2 hv hX hP; have HKC := zaa.mk (za9 g A c lt a X I2.out.ps); obtain ⟨q, hq⟩ : ∃ q, q = cu lt a := ⟨_, rfl⟩; rw [← hq] at HKC hK; have HQ := zaa.mk hq; have HRR := zaa.mk hK; clear hq hK; go_upto_region 2 with (first | (go_at_call 34; refine HKC.out.mono ?_; rintro e w2 ⟨rfl, hb2⟩; have H2 := zaa.mk (I2.out.below hb2); have HV := zaa.mk (IV.out.below hb2); clear hb2 I2 IV HKC) | (go_at_call 46; refine (zaE.calls _ _ _ HRR.out).mono ?_; rintro e w3 ⟨rfl, hd2⟩; have hb2 := hd2.below; clear hd2; have G2 := zaa.mk (H2.out.below hb2); have GV := zaa.mk (HV.out.below hb2); clear hb2 H2 HV))
 have J2 := zaa.mk (G2.out.newv (o := nodeO 57 0 0 (.slice none 0 0))); have JN := zaa.mk (NI.new_ (b := W.heap.size) (okx := okx) (W := W) (r := none) (X := w3) (N := 1) G2.out.fr.size (NV.leaf (k := 57) (w := 0) (wd := 0) (by omega) (by omega) (by omega) (Nat.le_refl _)) (.inl rfl))
 have JV := zaa.mk (GV.out.newv (o := nodeO 57 0 0 (.slice none 0 0))); have HNE := zaa.mk GV.out.zaB; obtain ⟨X1, hX1⟩ : ∃ X1, X1 = w3.alloc (nodeO 57 0 0 (.slice none 0 0)) := ⟨_, rfl⟩; rw [← hX1] at J2 JN JV; change Code.wp Try.prog _ _ _ (w3.alloc (nodeO 57 0 0 (.slice none 0 0)))
 rw [← hX1]; clear hX1 G2 GV; obtain ⟨hla, hlh⟩ := HLE.out; have hlt_ := HLT.out; have hln_ := HLEN.out; obtain ⟨x0, x1, x2, x3⟩ := JN.out.cells; go_upto_region 31 with (go_at_call 50; refine (zbw g A c lt HTO.out a W.heap.size (oky okx w3.heap.size) X1 57 0 0 _ [] 1 J2.out.ps JN.out.nv J2.out.fr.size (fun q hq => J2.out.hg q (J2.out.sub q hq)) J2.out.fresh hlt_ (by omega)).mono ?_; rintro e w11 ⟨wd11, u11, l11, rfl, h1, h2, h3, h4⟩; obtain ⟨A11, c11, rfl, _, _⟩ := Kd.zaQ h2.row; have hp_ := JN.out.vi.same (J2.out.var JN.out.vi h3 (fun q hq => JN.out.nv.row.1 q hq)); have J11_ := zaa.mk ((J2.out.ext JN.out h1 h3).put (k := 57) (w := 0) (wd := wd11) (u := .slice A11 l11.length c11) hp_); have N11_ := zaa.mk (NI.put hp_ h2 (zaK JN.out.near J2.out.fr.size h4)); have hv_ := JV.out.same (J2.out.var JV.out h3 (fun q hq => JN.out.nv.row.1 q hq)); have V11_ := zaa.mk (hv_.put (p := w3.heap.size) (k := 57) (w := 0) (wd := wd11) (u := .slice A11 l11.length c11) (fun e_ => by have := HNE.out; omega)); clear hv_; obtain ⟨z0, z1, z2, z3, hz_⟩ := hp_.at_; have f0 := zab hz_ 0; have f1 := zab hz_ 1; have f2 := zab hz_ 2; have f3 := zab hz_ 3; obtain ⟨⟨d0, d1, d2, d3⟩, dl⟩ := zaD hz_; clear h1 h2 h3 h4 hp_ hz_ x0 x1 x2 x3 J2 JN JV)
 obtain ⟨X11, hX1⟩ : ∃ X1, X1 = putN w11 w3.heap.size 57 0 wd11 (.slice A11 l11.length c11) := ⟨_, rfl⟩; rw [← hX1] at J11_ N11_ V11_; simp only [putN] at hX1; rw [← hX1]; clear hX1 f0 f1 f2 f3 d0 d1 d2 d3 dl; obtain ⟨b11, hb_⟩ : ∃ b_, b_ = hd lt a + 1 := ⟨_, rfl⟩; have hh_ := hd_ge lt a; have b11a : a < b11 := by omega
 have b11l : b11 ≤ lt.length := by omega
 rw [← hb_] at J11_; have n_ := zaa.mk (N11_.out.more (N' := 40 * (b11 - a) - 38) (by omega))
 clear N11_ hb_ hh_; have N11_ := n_; clear n_; obtain ⟨x0, x1, x2, x3⟩ := N11_.out.cells; go_upto_region 32 with (go_at_call 61; refine (HEXP.out b11 (by omega) W.heap.size (oky okx w3.heap.size) X11 57 0 wd11 _ l11 (40 * (b11 - a) - 38) J11_.out.ps N11_.out.nv J11_.out.fr.size (fun q hq => J11_.out.hg q (J11_.out.sub q hq)) J11_.out.fresh (by omega)).mono ?_; rintro e w12 ⟨b12, b12a, b12l, wd12, u12, l12, rfl, h1, h2, h3, h4⟩; obtain ⟨A12, c12, rfl, _, _⟩ := Kd.zaQ h2.row; have hp_ := N11_.out.vi.same (J11_.out.var N11_.out.vi h3 (fun q hq => N11_.out.nv.row.1 q hq)); have J12_ := zaa.mk ((J11_.out.ext N11_.out h1 h3).put (k := 57) (w := 0) (wd := wd12) (u := .slice A12 l12.length c12) hp_); have N12_ := zaa.mk (NI.put hp_ h2 (zaK N11_.out.near J11_.out.fr.size h4)); have hv_ := V11_.out.same (J11_.out.var V11_.out h3 (fun q hq => N11_.out.nv.row.1 q hq)); have V12_ := zaa.mk (hv_.put (p := w3.heap.size) (k := 57) (w := 0) (wd := wd12) (u := .slice A12 l12.length c12) (fun e_ => by have := HNE.out; omega)); clear hv_; obtain ⟨z0, z1, z2, z3, hz_⟩ := hp_.at_; have f0 := zab hz_ 0; have f1 := zab hz_ 1; have f2 := zab hz_ 2; have f3 := zab hz_ 3; obtain ⟨⟨d0, d1, d2, d3⟩, dl⟩ := zaD hz_; clear h1 h2 h3 h4 hp_ hz_ x0 x1 x2 x3 J11_ N11_ V11_)
 obtain ⟨X12, hX1⟩ : ∃ X1, X1 = putN w12 w3.heap.size 57 0 wd12 (.slice A12 l12.length c12) := ⟨_, rfl⟩; rw [← hX1] at J12_ N12_ V12_; simp only [putN] at hX1; rw [← hX1]; clear hX1 f0 f1 f2 f3 d0 d1 d2 d3 dl; have n_ := zaa.mk (N12_.out.more (N' := 40 * (b12 - a) - 37) (by omega))
 clear N12_; have N12_ := n_; clear n_; obtain ⟨x0, x1, x2, x3⟩ := N12_.out.cells; go_wp2_with (go_at_call 63; refine (HBL.out b12 (by omega) W.heap.size (oky okx w3.heap.size) X12 57 0 wd12 _ l12 (40 * (b12 - a) - 37) J12_.out.ps N12_.out.nv J12_.out.fr.size (fun q hq => J12_.out.hg q (J12_.out.sub q hq)) J12_.out.fresh (by omega)).mono ?_; rintro e w99 ⟨b9_, b9_a, b9_l, wd99, u99, l99, rfl, h1, h2, h3, h4⟩; obtain ⟨A99, c99, rfl, _, _⟩ := Kd.zaQ h2.row; have hv_ := V12_.out.same (J12_.out.var V12_.out h3 (fun q hq => N12_.out.nv.row.1 q hq)); have HEND := zaa.mk ((J12_.out.ext N12_.out h1 h3).done hv_ h2 (zaK N12_.out.near J12_.out.fr.size h4)); obtain ⟨z0, z1, z2, z3, hz_⟩ := hv_.at_; have HZ := zaa.mk hz_; have f0 := zab hz_ 0; have f1 := zab hz_ 1; have f2 := zab hz_ 2; have f3 := zab hz_ 3; obtain ⟨⟨d0, d1, d2, d3⟩, dl⟩ := zaD hz_; clear h1 h2 h3 h4 hv_ hz_ x0 x1 x2 x3)
 refine bodyPost_ret (zaR (r := .cell 2 27) rfl (.cell (W.heap.size) 27 _ (0, 0) _ rfl (zbe HZ.out) Try.underlying27 rfl (by kernel_rfl) .nil)) rfl ?_
 refine ⟨b9_, by omega, b9_l, ?_⟩
 obtain ⟨wd8, u8, l8, e1, e2, e3, e4, e5⟩ := HEND.out; exact ⟨_, _, wd8, u8, l8, e1, e2, e3.more (by omega), e4⟩
set_option maxHeartbeats 8000000 in
set_option maxRecDepth 100000 in
theorem st_return (g : Nat) (A : Option Addr) (c : Nat) (lt : List S39) (htk : TkOk lt) (a : Nat) (hK : zaE.f (cu lt a) = some 58) (hexp : ∀ a1, a < a1 → CExpr g A c lt a1) (W : World) (hP : PS W g A c lt a) :
  Calls Try.prog 49 #[.pointer (some ⟨g, 0, none⟩)] W fun e W' => ∃ a', a < a' ∧ a' ≤ lt.length ∧ Ret g A c lt W a' (40 * (a' - a) - 10) e W' := by
 have HTO := zaa.mk htk; have HLT := zaa.mk (cu_lt (stmt_ne hK (by omega)))
 have HLEN := zaa.mk hP.len; have HLE := zaa.mk (And.intro hP.le (hd_ge lt a)); have HEXP := zaa.mk hexp; clear htk hexp; have hu := Try.underlying27; go_enter Try.func49, Try.ntmps49
 go_upto_region 1 with (fail)
 obtain ⟨X, hX⟩ : ∃ X, X = W.alloc (nodeO 0 0 0 (.slice none 0 0)) := ⟨_, rfl⟩; obtain ⟨h2, hv⟩ := S2.start1 hP hX; change Code.wp Try.prog _ _ _ (W.alloc (nodeO 0 0 0 (.slice none 0 0)))
 rw [← hX]; generalize oky (fun q => W.heap.size ≤ q) W.heap.size = okx at h2 hv
 have I2 := zaa.mk h2; have IV := zaa.mk hv; clear h2 hv hX hP; have HKC := zaa.mk (za9 g A c lt a X I2.out.ps); obtain ⟨q, hq⟩ : ∃ q, q = cu lt a := ⟨_, rfl⟩; rw [← hq] at HKC hK; have HQ := zaa.mk hq; have HRR := zaa.mk hK; clear hq hK; go_upto_region 2 with (first | (go_at_call 34; refine HKC.out.mono ?_; rintro e w2 ⟨rfl, hb2⟩; have H2 := zaa.mk (I2.out.below hb2); have HV := zaa.mk (IV.out.below hb2); clear hb2 I2 IV HKC) | (go_at_call 46; refine (zaE.calls _ _ _ HRR.out).mono ?_; rintro e w3 ⟨rfl, hd2⟩; have hb2 := hd2.below; clear hd2; have G2 := zaa.mk (H2.out.below hb2); have GV := zaa.mk (HV.out.below hb2); clear hb2 H2 HV))
 have J2 := zaa.mk (G2.out.newv (o := nodeO 58 0 0 (.slice none 0 0))); have JN := zaa.mk (NI.new_ (b := W.heap.size) (okx := okx) (W := W) (r := none) (X := w3) (N := 1) G2.out.fr.size (NV.leaf (k := 58) (w := 0) (wd := 0) (by omega) (by omega) (by omega) (Nat.le_refl _)) (.inl rfl))
 have JV := zaa.mk (GV.out.newv (o := nodeO 58 0 0 (.slice none 0 0))); have HNE := zaa.mk GV.out.zaB; obtain ⟨X1, hX1⟩ : ∃ X1, X1 = w3.alloc (nodeO 58 0 0 (.slice none 0 0)) := ⟨_, rfl⟩; rw [← hX1] at J2 JN JV; change Code.wp Try.prog _ _ _ (w3.alloc (nodeO 58 0 0 (.slice none 0 0)))
 rw [← hX1]; clear hX1 G2 GV; obtain ⟨hla, hlh⟩ := HLE.out; have hlt_ := HLT.out; have hln_ := HLEN.out; obtain ⟨x0, x1, x2, x3⟩ := JN.out.cells; go_upto_region 35 with (go_at_call 50; refine (zbw g A c lt HTO.out a W.heap.size (oky okx w3.heap.size) X1 58 0 0 _ [] 1 J2.out.ps JN.out.nv J2.out.fr.size (fun q hq => J2.out.hg q (J2.out.sub q hq)) J2.out.fresh hlt_ (by omega)).mono ?_; rintro e w11 ⟨wd11, u11, l11, rfl, h1, h2, h3, h4⟩; obtain ⟨A11, c11, rfl, _, _⟩ := Kd.zaQ h2.row; have hp_ := JN.out.vi.same (J2.out.var JN.out.vi h3 (fun q hq => JN.out.nv.row.1 q hq)); have J11_ := zaa.mk ((J2.out.ext JN.out h1 h3).put (k := 58) (w := 0) (wd := wd11) (u := .slice A11 l11.length c11) hp_); have N11_ := zaa.mk (NI.put hp_ h2 (zaK JN.out.near J2.out.fr.size h4)); have hv_ := JV.out.same (J2.out.var JV.out h3 (fun q hq => JN.out.nv.row.1 q hq)); have V11_ := zaa.mk (hv_.put (p := w3.heap.size) (k := 58) (w := 0) (wd := wd11) (u := .slice A11 l11.length c11) (fun e_ => by have := HNE.out; omega)); clear hv_; obtain ⟨z0, z1, z2, z3, hz_⟩ := hp_.at_; have f0 := zab hz_ 0; have f1 := zab hz_ 1; have f2 := zab hz_ 2; have f3 := zab hz_ 3; obtain ⟨⟨d0, d1, d2, d3⟩, dl⟩ := zaD hz_; clear h1 h2 h3 h4 hp_ hz_ x0 x1 x2 x3 J2 JN JV)
 obtain ⟨X11, hX1⟩ : ∃ X1, X1 = putN w11 w3.heap.size 58 0 wd11 (.slice A11 l11.length c11) := ⟨_, rfl⟩; rw [← hX1] at J11_ N11_ V11_; simp only [putN] at hX1; rw [← hX1]; clear hX1 f0 f1 f2 f3 d0 d1 d2 d3 dl; obtain ⟨b11, hb_⟩ : ∃ b_, b_ = hd lt a + 1 := ⟨_, rfl⟩; have hh_ := hd_ge lt a; have b11a : a < b11 := by omega
 have b11l : b11 ≤ lt.length := by omega
 rw [← hb_] at J11_; have n_ := zaa.mk (N11_.out.more (N' := 40 * (b11 - a) - 38) (by omega))
 clear N11_ hb_ hh_; have N11_ := n_; clear n_; have HKC_ := zaa.mk (za9 g A c lt b11 X11 J11_.out.ps); obtain ⟨q_, hq_⟩ : ∃ q_, q_ = cu lt b11 := ⟨_, rfl⟩; rw [← hq_] at HKC_; have HQ_ := zaa.mk hq_; clear hq_; obtain ⟨rr_, hrr_⟩ := expr_tot q_; have HR2 := zaa.mk hrr_; clear hrr_; cases rr_ with
 | false =>
  go_upto_region 37 with (first | (go_at_call 34; refine HKC_.out.mono ?_; rintro e w12 ⟨rfl, hb2⟩; have J12_ := zaa.mk (J11_.out.below hb2); have N12_ := zaa.mk (N11_.out.below hb2); have V12_ := zaa.mk (V11_.out.below hb2); clear hb2 J11_ N11_ V11_ HKC_) | (go_at_call 59; refine (zaF.calls _ _ _ HR2.out).mono ?_; rintro e w13 ⟨rfl, hd2⟩; have hb2 := hd2.below; clear hd2; have J13_ := zaa.mk (J12_.out.below hb2); have N13_ := zaa.mk (N12_.out.below hb2); have V13_ := zaa.mk (V12_.out.below hb2); clear hb2 J12_ N12_ V12_))
  obtain ⟨x0, x1, x2, x3⟩ := N13_.out.cells; go_wp2_with (go_at_call 60; refine (zbC g A c lt HTO.out b11 W.heap.size (oky okx w3.heap.size) w13 58 0 wd11 _ l11 (40 * (b11 - a) - 38) 25 (by omega) J13_.out.ps N13_.out.nv J13_.out.fr.size (fun q hq => J13_.out.hg q (J13_.out.sub q hq)) J13_.out.fresh (by omega)).mono ?_; rintro e w99 ⟨b9_, b9_a, b9_l, wd99, u99, l99, rfl, h1, h2, h3, h4⟩; obtain ⟨A99, c99, rfl, _, _⟩ := Kd.zaQ h2.row; have hv_ := V13_.out.same (J13_.out.var V13_.out h3 (fun q hq => N13_.out.nv.row.1 q hq)); have HEND := zaa.mk ((J13_.out.ext N13_.out h1 h3).done hv_ h2 (zaK N13_.out.near J13_.out.fr.size h4)); obtain ⟨z0, z1, z2, z3, hz_⟩ := hv_.at_; have HZ := zaa.mk hz_; have f0 := zab hz_ 0; have f1 := zab hz_ 1; have f2 := zab hz_ 2; have f3 := zab hz_ 3; obtain ⟨⟨d0, d1, d2, d3⟩, dl⟩ := zaD hz_; clear h1 h2 h3 h4 hv_ hz_ x0 x1 x2 x3)
  refine bodyPost_ret (zaR (r := .cell 2 27) rfl (.cell (W.heap.size) 27 _ (0, 0) _ rfl (zbe HZ.out) Try.underlying27 rfl (by kernel_rfl) .nil)) rfl ?_
  refine ⟨b9_, by omega, b9_l, ?_⟩
  obtain ⟨wd8, u8, l8, e1, e2, e3, e4, e5⟩ := HEND.out; exact ⟨_, _, wd8, u8, l8, e1, e2, e3.more (by omega), e4⟩
 | true =>
  go_upto_region 36 with (first | (go_at_call 34; refine HKC_.out.mono ?_; rintro e w12 ⟨rfl, hb2⟩; have J12_ := zaa.mk (J11_.out.below hb2); have N12_ := zaa.mk (N11_.out.below hb2); have V12_ := zaa.mk (V11_.out.below hb2); clear hb2 J11_ N11_ V11_ HKC_) | (go_at_call 59; refine (zaF.calls _ _ _ HR2.out).mono ?_; rintro e w13 ⟨rfl, hd2⟩; have hb2 := hd2.below; clear hd2; have J13_ := zaa.mk (J12_.out.below hb2); have N13_ := zaa.mk (N12_.out.below hb2); have V13_ := zaa.mk (V12_.out.below hb2); clear hb2 J12_ N12_ V12_))
  obtain ⟨x0, x1, x2, x3⟩ := N13_.out.cells; go_upto_region 37 with (go_at_call 61; refine (HEXP.out b11 (by omega) W.heap.size (oky okx w3.heap.size) w13 58 0 wd11 _ l11 (40 * (b11 - a) - 38) J13_.out.ps N13_.out.nv J13_.out.fr.size (fun q hq => J13_.out.hg q (J13_.out.sub q hq)) J13_.out.fresh (by omega)).mono ?_; rintro e w14 ⟨b14, b14a, b14l, wd14, u14, l14, rfl, h1, h2, h3, h4⟩; obtain ⟨A14, c14, rfl, _, _⟩ := Kd.zaQ h2.row; have hp_ := N13_.out.vi.same (J13_.out.var N13_.out.vi h3 (fun q hq => N13_.out.nv.row.1 q hq)); have J14_ := zaa.mk ((J13_.out.ext N13_.out h1 h3).put (k := 58) (w := 0) (wd := wd14) (u := .slice A14 l14.length c14) hp_); have N14_ := zaa.mk (NI.put hp_ h2 (zaK N13_.out.near J13_.out.fr.size h4)); have hv_ := V13_.out.same (J13_.out.var V13_.out h3 (fun q hq => N13_.out.nv.row.1 q hq)); have V14_ := zaa.mk (hv_.put (p := w3.heap.size) (k := 58) (w := 0) (wd := wd14) (u := .slice A14 l14.length c14) (fun e_ => by have := HNE.out; omega)); clear hv_; obtain ⟨z0, z1, z2, z3, hz_⟩ := hp_.at_; have f0 := zab hz_ 0; have f1 := zab hz_ 1; have f2 := zab hz_ 2; have f3 := zab hz_ 3; obtain ⟨⟨d0, d1, d2, d3⟩, dl⟩ := zaD hz_; clear h1 h2 h3 h4 hp_ hz_ x0 x1 x2 x3 J13_ N13_ V13_)
  obtain ⟨X14, hX1⟩ : ∃ X1, X1 = putN w14 w3.heap.size 58 0 wd14 (.slice A14 l14.length c14) := ⟨_, rfl⟩; rw [← hX1] at J14_ N14_ V14_; simp only [putN] at hX1; rw [← hX1]; clear hX1 f0 f1 f2 f3 d0 d1 d2 d3 dl; have n_ := zaa.mk (N14_.out.more (N' := 40 * (b14 - a) - 37) (by omega))
  clear N14_; have N14_ := n_; clear n_; obtain ⟨x0, x1, x2, x3⟩ := N14_.out.cells; go_wp2_with (go_at_call 60; refine (zbC g A c lt HTO.out b14 W.heap.size (oky okx w3.heap.size) X14 58 0 wd14 _ l14 (40 * (b14 - a) - 37) 25 (by omega) J14_.out.ps N14_.out.nv J14_.out.fr.size (fun q hq => J14_.out.hg q (J14_.out.sub q hq)) J14_.out.fresh (by omega)).mono ?_; rintro e w99 ⟨b9_, b9_a, b9_l, wd99, u99, l99, rfl, h1, h2, h3, h4⟩; obtain ⟨A99, c99, rfl, _, _⟩ := Kd.zaQ h2.row; have hv_ := V14_.out.same (J14_.out.var V14_.out h3 (fun q hq => N14_.out.nv.row.1 q hq)); have HEND := zaa.mk ((J14_.out.ext N14_.out h1 h3).done hv_ h2 (zaK N14_.out.near J14_.out.fr.size h4)); obtain ⟨z0, z1, z2, z3, hz_⟩ := hv_.at_; have HZ := zaa.mk hz_; have f0 := zab hz_ 0; have f1 := zab hz_ 1; have f2 := zab hz_ 2; have f3 := zab hz_ 3; obtain ⟨⟨d0, d1, d2, d3⟩, dl⟩ := zaD hz_; clear h1 h2 h3 h4 hv_ hz_ x0 x1 x2 x3)
  refine bodyPost_ret (zaR (r := .cell 2 27) rfl (.cell (W.heap.size) 27 _ (0, 0) _ rfl (zbe HZ.out) Try.underlying27 rfl (by kernel_rfl) .nil)) rfl ?_
  refine ⟨b9_, by omega, b9_l, ?_⟩
  obtain ⟨wd8, u8, l8, e1, e2, e3, e4, e5⟩ := HEND.out; exact ⟨_, _, wd8, u8, l8, e1, e2, e3.more (by omega), e4⟩
set_option maxHeartbeats 8000000 in
set_option maxRecDepth 100000 in
theorem st_block (g : Nat) (A : Option Addr) (c : Nat) (lt : List S39) (htk : TkOk lt) (a : Nat) (hK : zaE.f (cu lt a) = some 52) (hbeg : CBegun g A c lt a) (W : World) (hP : PS W g A c lt a) :
  Calls Try.prog 49 #[.pointer (some ⟨g, 0, none⟩)] W fun e W' => ∃ a', a < a' ∧ a' ≤ lt.length ∧ Ret g A c lt W a' (40 * (a' - a) - 10) e W' := by
 have HTO := zaa.mk htk; have HLT := zaa.mk (cu_lt (stmt_ne hK (by omega)))
 have HLEN := zaa.mk hP.len; have HLE := zaa.mk (And.intro hP.le (hd_ge lt a)); have HBEG := zaa.mk hbeg; clear htk hbeg; have hu := Try.underlying27; go_enter Try.func49, Try.ntmps49
 go_upto_region 1 with (fail)
 obtain ⟨X, hX⟩ : ∃ X, X = W.alloc (nodeO 0 0 0 (.slice none 0 0)) := ⟨_, rfl⟩; obtain ⟨h2, hv⟩ := S2.start1 hP hX; change Code.wp Try.prog _ _ _ (W.alloc (nodeO 0 0 0 (.slice none 0 0)))
 rw [← hX]; generalize oky (fun q => W.heap.size ≤ q) W.heap.size = okx at h2 hv
 have I2 := zaa.mk h2; have IV := zaa.mk hv; clear h2 hv hX hP; have HKC := zaa.mk (za9 g A c lt a X I2.out.ps); obtain ⟨q, hq⟩ : ∃ q, q = cu lt a := ⟨_, rfl⟩; rw [← hq] at HKC hK; have HQ := zaa.mk hq; have HRR := zaa.mk hK; clear hq hK; go_upto_region 2 with (first | (go_at_call 34; refine HKC.out.mono ?_; rintro e w2 ⟨rfl, hb2⟩; have H2 := zaa.mk (I2.out.below hb2); have HV := zaa.mk (IV.out.below hb2); clear hb2 I2 IV HKC) | (go_at_call 46; refine (zaE.calls _ _ _ HRR.out).mono ?_; rintro e w3 ⟨rfl, hd2⟩; have hb2 := hd2.below; clear hd2; have G2 := zaa.mk (H2.out.below hb2); have GV := zaa.mk (HV.out.below hb2); clear hb2 H2 HV))
 have J2 := zaa.mk (G2.out.newv (o := nodeO 52 0 0 (.slice none 0 0))); have JN := zaa.mk (NI.new_ (b := W.heap.size) (okx := okx) (W := W) (r := none) (X := w3) (N := 1) G2.out.fr.size (NV.leaf (k := 52) (w := 0) (wd := 0) (by omega) (by omega) (by omega) (Nat.le_refl _)) (.inl rfl))
 have JV := zaa.mk (GV.out.newv (o := nodeO 52 0 0 (.slice none 0 0))); have HNE := zaa.mk GV.out.zaB; obtain ⟨X1, hX1⟩ : ∃ X1, X1 = w3.alloc (nodeO 52 0 0 (.slice none 0 0)) := ⟨_, rfl⟩; rw [← hX1] at J2 JN JV; change Code.wp Try.prog _ _ _ (w3.alloc (nodeO 52 0 0 (.slice none 0 0)))
 rw [← hX1]; clear hX1 G2 GV; obtain ⟨hla, hlh⟩ := HLE.out; have hlt_ := HLT.out; have hln_ := HLEN.out; obtain ⟨x0, x1, x2, x3⟩ := JN.out.cells; go_upto_region 40 with (go_at_call 47; refine (taken_calls g A c lt a W.heap.size (oky okx w3.heap.size) X1 0 0 0 _ [] 1 52 J2.out.ps (NV.leaf (by omega) (by omega) (by omega) (Nat.le_refl _)) (fun q hq => J2.out.hg q (J2.out.sub q hq))).mono ?_; rintro e w4 ⟨rfl, h1, h2, h3⟩; have h4 : Fr g none X1 w4 := h3; have K2 := zaa.mk ((J2.out.ret h1 h4).newv (o := nodeO 0 0 0 (.slice none 0 0))); have KV := zaa.mk ((VI.ret J2.out JV.out h4).newv (o := nodeO 0 0 0 (.slice none 0 0))); clear h1 h2 h3 h4 J2 JN JV x0 x1 x2 x3)
 obtain ⟨Y, hX1⟩ : ∃ X1, X1 = w4.alloc (nodeO 0 0 0 (.slice none 0 0)) := ⟨_, rfl⟩; rw [← hX1] at K2 KV; change Code.wp Try.prog _ _ _ (w4.alloc (nodeO 0 0 0 (.slice none 0 0)))
 rw [← hX1]; clear hX1; go_upto_region 42 with (fail)
 go_wp2_with (go_at_call 64; refine (HBEG.out Y K2.out.ps HLT.out).mono ?_; rintro e w5 ⟨b1, b1a, b1l, k1, w1, wd1, u1, l1, rfl, h1, h2, h3⟩; obtain ⟨A1, c1, rfl, _, _⟩ := Kd.zaQ h2.row; have hv_ := VI.ret K2.out KV.out h3; have HEND := zaa.mk ((K2.out.ret h1 h3).done hv_ (nv_new (b := W.heap.size) h2 K2.out.fr.size K2.out.fresh) (near_new (W := W) h2 K2.out.fr.size)); obtain ⟨z0, z1, z2, z3, hz_⟩ := hv_.at_; have HZ := zaa.mk hz_; have f0 := zab hz_ 0; have f1 := zab hz_ 1; have f2 := zab hz_ 2; have f3 := zab hz_ 3; obtain ⟨⟨d0, d1, d2, d3⟩, dl⟩ := zaD hz_; clear h1 h2 h3 hv_ hz_)
 refine bodyPost_ret (zaR (r := .cell 2 27) rfl (.cell (W.heap.size) 27 _ (0, 0) _ rfl (zbe HZ.out) Try.underlying27 rfl (by kernel_rfl) .nil)) rfl ?_
 refine ⟨b1, by omega, b1l, ?_⟩
 obtain ⟨wd8, u8, l8, e1, e2, e3, e4, e5⟩ := HEND.out; exact ⟨_, _, wd8, u8, l8, e1, e2, e3.more (by omega), e4⟩
set_option maxHeartbeats 8000000 in
set_option maxRecDepth 100000 in
theorem st_do (g : Nat) (A : Option Addr) (c : Nat) (lt : List S39) (htk : TkOk lt) (a : Nat) (hK : zaE.f (cu lt a) = some 59) (hexp : ∀ a1, a < a1 → CExpr g A c lt a1) (hexs : CExprS g A c lt a) (hx : zaF.f (cu lt a) = some true) (W : World) (hP : PS W g A c lt a) :
  Calls Try.prog 49 #[.pointer (some ⟨g, 0, none⟩)] W fun e W' => ∃ a', a < a' ∧ a' ≤ lt.length ∧ Ret g A c lt W a' (40 * (a' - a) - 10) e W' := by
 have HX := zaa.mk hx; clear hx; have HTO := zaa.mk htk; have HLT := zaa.mk (cu_lt (stmt_ne hK (by omega)))
 have HLEN := zaa.mk hP.len; have HLE := zaa.mk (And.intro hP.le (hd_ge lt a)); have HEXP := zaa.mk hexp; have HEXS := zaa.mk hexs; clear htk hexp hexs; have hu := Try.underlying27; go_enter Try.func49, Try.ntmps49
 go_upto_region 1 with (fail)
 obtain ⟨X, hX⟩ : ∃ X, X = W.alloc (nodeO 0 0 0 (.slice none 0 0)) := ⟨_, rfl⟩; obtain ⟨h2, hv⟩ := S2.start1 hP hX; change Code.wp Try.prog _ _ _ (W.alloc (nodeO 0 0 0 (.slice none 0 0)))
 rw [← hX]; generalize oky (fun q => W.heap.size ≤ q) W.heap.size = okx at h2 hv
 have I2 := zaa.mk h2; have IV := zaa.mk hv; clear h2 hv hX hP; have HKC := zaa.mk (za9 g A c lt a X I2.out.ps); obtain ⟨q, hq⟩ : ∃ q, q = cu lt a := ⟨_, rfl⟩; rw [← hq] at HKC hK; have HQ := zaa.mk hq; have HRR := zaa.mk hK; clear hq hK; go_upto_region 2 with (first | (go_at_call 34; refine HKC.out.mono ?_; rintro e w2 ⟨rfl, hb2⟩; have H2 := zaa.mk (I2.out.below hb2); have HV := zaa.mk (IV.out.below hb2); clear hb2 I2 IV HKC) | (go_at_call 46; refine (zaE.calls _ _ _ HRR.out).mono ?_; rintro e w3 ⟨rfl, hd2⟩; have hb2 := hd2.below; clear hd2; have G2 := zaa.mk (H2.out.below hb2); have GV := zaa.mk (HV.out.below hb2); clear hb2 H2 HV))
 have J2 := zaa.mk (G2.out.newv (o := nodeO 59 0 0 (.slice none 0 0))); have JN := zaa.mk (NI.new_ (b := W.heap.size) (okx := okx) (W := W) (r := none) (X := w3) (N := 1) G2.out.fr.size (NV.leaf (k := 59) (w := 0) (wd := 0) (by omega) (by omega) (by omega) (Nat.le_refl _)) (.inl rfl))
 have JV := zaa.mk (GV.out.newv (o := nodeO 59 0 0 (.slice none 0 0))); have HNE := zaa.mk GV.out.zaB; obtain ⟨X1, hX1⟩ : ∃ X1, X1 = w3.alloc (nodeO 59 0 0 (.slice none 0 0)) := ⟨_, rfl⟩; rw [← hX1] at J2 JN JV; change Code.wp Try.prog _ _ _ (w3.alloc (nodeO 59 0 0 (.slice none 0 0)))
 rw [← hX1]; clear hX1 G2 GV; obtain ⟨hla, hlh⟩ := HLE.out; have hlt_ := HLT.out; have hln_ := HLEN.out; obtain ⟨x0, x1, x2, x3⟩ := JN.out.cells; go_upto_region 44 with (go_at_call 61; refine (HEXS.out W.heap.size (oky okx w3.heap.size) X1 59 0 0 _ [] 1 J2.out.ps JN.out.nv J2.out.fr.size (fun q hq => J2.out.hg q (J2.out.sub q hq)) J2.out.fresh (by omega)).mono ?_; rintro e w11 ⟨b11, b11a, b11l, hsh, wd11, u11, l11, rfl, h1, h2, h3, h4⟩; obtain ⟨A11, c11, rfl, _, _⟩ := Kd.zaQ h2.row; have hp_ := JN.out.vi.same (J2.out.var JN.out.vi h3 (fun q hq => JN.out.nv.row.1 q hq)); have J11_ := zaa.mk ((J2.out.ext JN.out h1 h3).put (k := 59) (w := 0) (wd := wd11) (u := .slice A11 l11.length c11) hp_); have N11_ := zaa.mk (NI.put hp_ h2 (zaK JN.out.near J2.out.fr.size h4)); have hv_ := JV.out.same (J2.out.var JV.out h3 (fun q hq => JN.out.nv.row.1 q hq)); have V11_ := zaa.mk (hv_.put (p := w3.heap.size) (k := 59) (w := 0) (wd := wd11) (u := .slice A11 l11.length c11) (fun e_ => by have := HNE.out; omega)); clear hv_; obtain ⟨z0, z1, z2, z3, hz_⟩ := hp_.at_; have f0 := zab hz_ 0; have f1 := zab hz_ 1; have f2 := zab hz_ 2; have f3 := zab hz_ 3; obtain ⟨⟨d0, d1, d2, d3⟩, dl⟩ := zaD hz_; clear h1 h2 h3 h4 hp_ hz_ x0 x1 x2 x3 J2 JN JV)
 obtain ⟨X11, hX1⟩ : ∃ X1, X1 = putN w11 w3.heap.size 59 0 wd11 (.slice A11 l11.length c11) := ⟨_, rfl⟩; rw [← hX1] at J11_ N11_ V11_; simp only [putN] at hX1; rw [← hX1]; clear hX1 f0 f1 f2 f3 d0 d1 d2 d3 dl; have n_ := zaa.mk (N11_.out.more (N' := 40 * (b11 - a) - 18) (by rw [if_neg (by have := hsh HX.out; omega)]; have := hsh HX.out; omega))
 have hge_ := hsh HX.out; clear hsh N11_; have N11_ := n_; clear n_; have HKC_ := zaa.mk (za9 g A c lt b11 X11 J11_.out.ps); obtain ⟨q_, hq_⟩ : ∃ q_, q_ = cu lt b11 := ⟨_, rfl⟩; rw [← hq_] at HKC_; have HQ_ := zaa.mk hq_; clear hq_; by_cases hq26 : q_ = 26
 case neg =>
  have d26 : (q_ == 26) = false := by simp [hq26]
  clear hq26; go_upto_region 47 with (go_at_call 34; refine HKC_.out.mono ?_; rintro e w12 ⟨rfl, hb2⟩; have J12_ := zaa.mk (J11_.out.below hb2); have N12_ := zaa.mk (N11_.out.below hb2); have V12_ := zaa.mk (V11_.out.below hb2); clear hb2 J11_ N11_ V11_ HKC_)
  obtain ⟨x0, x1, x2, x3⟩ := N12_.out.cells; go_wp2_with (go_at_call 60; refine (zbC g A c lt HTO.out b11 W.heap.size (oky okx w3.heap.size) w12 59 0 wd11 _ l11 (40 * (b11 - a) - 18) 25 (by omega) J12_.out.ps N12_.out.nv J12_.out.fr.size (fun q hq => J12_.out.hg q (J12_.out.sub q hq)) J12_.out.fresh (by omega)).mono ?_; rintro e w99 ⟨b9_, b9_a, b9_l, wd99, u99, l99, rfl, h1, h2, h3, h4⟩; obtain ⟨A99, c99, rfl, _, _⟩ := Kd.zaQ h2.row; have hv_ := V12_.out.same (J12_.out.var V12_.out h3 (fun q hq => N12_.out.nv.row.1 q hq)); have HEND := zaa.mk ((J12_.out.ext N12_.out h1 h3).done hv_ h2 (zaK N12_.out.near J12_.out.fr.size h4)); obtain ⟨z0, z1, z2, z3, hz_⟩ := hv_.at_; have HZ := zaa.mk hz_; have f0 := zab hz_ 0; have f1 := zab hz_ 1; have f2 := zab hz_ 2; have f3 := zab hz_ 3; obtain ⟨⟨d0, d1, d2, d3⟩, dl⟩ := zaD hz_; clear h1 h2 h3 h4 hv_ hz_ x0 x1 x2 x3)
  refine bodyPost_ret (zaR (r := .cell 2 27) rfl (.cell (W.heap.size) 27 _ (0, 0) _ rfl (zbe HZ.out) Try.underlying27 rfl (by kernel_rfl) .nil)) rfl ?_
  refine ⟨b9_, by omega, b9_l, ?_⟩
  obtain ⟨wd8, u8, l8, e1, e2, e3, e4, e5⟩ := HEND.out; exact ⟨_, _, wd8, u8, l8, e1, e2, e3.more (by omega), e4⟩
 case pos =>
  have d26 : (q_ == 26) = true := by simp [hq26]
  have hlt2_ := cu_lt (l := lt) (by rw [← HQ_.out, hq26]; omega)
  clear hq26; go_upto_region 45 with (go_at_call 34; refine HKC_.out.mono ?_; rintro e w12 ⟨rfl, hb2⟩; have J12_ := zaa.mk (J11_.out.below hb2); have N12_ := zaa.mk (N11_.out.below hb2); have V12_ := zaa.mk (V11_.out.below hb2); clear hb2 J11_ N11_ V11_ HKC_)
  obtain ⟨x0, x1, x2, x3⟩ := N12_.out.cells; go_upto_region 46 with (go_at_call 50; refine (zbw g A c lt HTO.out b11 W.heap.size (oky okx w3.heap.size) w12 59 0 wd11 _ l11 (40 * (b11 - a) - 18) J12_.out.ps N12_.out.nv J12_.out.fr.size (fun q hq => J12_.out.hg q (J12_.out.sub q hq)) J12_.out.fresh hlt2_ (by omega)).mono ?_; rintro e w13 ⟨wd13, u13, l13, rfl, h1, h2, h3, h4⟩; obtain ⟨A13, c13, rfl, _, _⟩ := Kd.zaQ h2.row; have hp_ := N12_.out.vi.same (J12_.out.var N12_.out.vi h3 (fun q hq => N12_.out.nv.row.1 q hq)); have J13_ := zaa.mk ((J12_.out.ext N12_.out h1 h3).put (k := 59) (w := 0) (wd := wd13) (u := .slice A13 l13.length c13) hp_); have N13_ := zaa.mk (NI.put hp_ h2 (zaK N12_.out.near J12_.out.fr.size h4)); have hv_ := V12_.out.same (J12_.out.var V12_.out h3 (fun q hq => N12_.out.nv.row.1 q hq)); have V13_ := zaa.mk (hv_.put (p := w3.heap.size) (k := 59) (w := 0) (wd := wd13) (u := .slice A13 l13.length c13) (fun e_ => by have := HNE.out; omega)); clear hv_; obtain ⟨z0, z1, z2, z3, hz_⟩ := hp_.at_; have f0 := zab hz_ 0; have f1 := zab hz_ 1; have f2 := zab hz_ 2; have f3 := zab hz_ 3; obtain ⟨⟨d0, d1, d2, d3⟩, dl⟩ := zaD hz_; clear h1 h2 h3 h4 hp_ hz_ x0 x1 x2 x3 J12_ N12_ V12_)
  obtain ⟨X13, hX1⟩ : ∃ X1, X1 = putN w13 w3.heap.size 59 0 wd13 (.slice A13 l13.length c13) := ⟨_, rfl⟩; rw [← hX1] at J13_ N13_ V13_; simp only [putN] at hX1; rw [← hX1]; clear hX1 f0 f1 f2 f3 d0 d1 d2 d3 dl; obtain ⟨b13, hb_⟩ : ∃ b_, b_ = hd lt b11 + 1 := ⟨_, rfl⟩; have hh_ := hd_ge lt b11; have b13a : b11 < b13 := by omega
  have b13l : b13 ≤ lt.length := by omega
  rw [← hb_] at J13_; have n_ := zaa.mk (N13_.out.more (N' := 40 * (b13 - a) - 18) (by omega))
  clear N13_ hb_ hh_; have N13_ := n_; clear n_; obtain ⟨x0, x1, x2, x3⟩ := N13_.out.cells; go_upto_region 47 with (go_at_call 61; refine (HEXP.out b13 (by omega) W.heap.size (oky okx w3.heap.size) X13 59 0 wd13 _ l13 (40 * (b13 - a) - 18) J13_.out.ps N13_.out.nv J13_.out.fr.size (fun q hq => J13_.out.hg q (J13_.out.sub q hq)) J13_.out.fresh (by omega)).mono ?_; rintro e w14 ⟨b14, b14a, b14l, wd14, u14, l14, rfl, h1, h2, h3, h4⟩; obtain ⟨A14, c14, rfl, _, _⟩ := Kd.zaQ h2.row; have hp_ := N13_.out.vi.same (J13_.out.var N13_.out.vi h3 (fun q hq => N13_.out.nv.row.1 q hq)); have J14_ := zaa.mk ((J13_.out.ext N13_.out h1 h3).put (k := 59) (w := 0) (wd := wd14) (u := .slice A14 l14.length c14) hp_); have N14_ := zaa.mk (NI.put hp_ h2 (zaK N13_.out.near J13_.out.fr.size h4)); have hv_ := V13_.out.same (J13_.out.var V13_.out h3 (fun q hq => N13_.out.nv.row.1 q hq)); have V14_ := zaa.mk (hv_.put (p := w3.heap.size) (k := 59) (w := 0) (wd := wd14) (u := .slice A14 l14.length c14) (fun e_ => by have := HNE.out; omega)); clear hv_; obtain ⟨z0, z1, z2, z3, hz_⟩ := hp_.at_; have f0 := zab hz_ 0; have f1 := zab hz_ 1; have f2 := zab hz_ 2; have f3 := zab hz_ 3; obtain ⟨⟨d0, d1, d2, d3⟩, dl⟩ := zaD hz_; clear h1 h2 h3 h4 hp_ hz_ x0 x1 x2 x3 J13_ N13_ V13_)
  obtain ⟨X14, hX1⟩ : ∃ X1, X1 = putN w14 w3.heap.size 59 0 wd14 (.slice A14 l14.length c14) := ⟨_, rfl⟩; rw [← hX1] at J14_ N14_ V14_; simp only [putN] at hX1; rw [← hX1]; clear hX1 f0 f1 f2 f3 d0 d1 d2 d3 dl; have n_ := zaa.mk (N14_.out.more (N' := 40 * (b14 - a) - 17) (by omega))
  clear N14_; have N14_ := n_; clear n_; obtain ⟨x0, x1, x2, x3⟩ := N14_.out.cells; go_wp2_with (go_at_call 60; refine (zbC g A c lt HTO.out b14 W.heap.size (oky okx w3.heap.size) X14 59 0 wd14 _ l14 (40 * (b14 - a) - 17) 25 (by omega) J14_.out.ps N14_.out.nv J14_.out.fr.size (fun q hq => J14_.out.hg q (J14_.out.sub q hq)) J14_.out.fresh (by omega)).mono ?_; rintro e w99 ⟨b9_, b9_a, b9_l, wd99, u99, l99, rfl, h1, h2, h3, h4⟩; obtain ⟨A99, c99, rfl, _, _⟩ := Kd.zaQ h2.row; have hv_ := V14_.out.same (J14_.out.var V14_.out h3 (fun q hq => N14_.out.nv.row.1 q hq)); have HEND := zaa.mk ((J14_.out.ext N14_.out h1 h3).done hv_ h2 (zaK N14_.out.near J14_.out.fr.size h4)); obtain ⟨z0, z1, z2, z3, hz_⟩ := hv_.at_; have HZ := zaa.mk hz_; have f0 := zab hz_ 0; have f1 := zab hz_ 1; have f2 := zab hz_ 2; have f3 := zab hz_ 3; obtain ⟨⟨d0, d1, d2, d3⟩, dl⟩ := zaD hz_; clear h1 h2 h3 h4 hv_ hz_ x0 x1 x2 x3)
  refine bodyPost_ret (zaR (r := .cell 2 27) rfl (.cell (W.heap.size) 27 _ (0, 0) _ rfl (zbe HZ.out) Try.underlying27 rfl (by kernel_rfl) .nil)) rfl ?_
  refine ⟨b9_, by omega, b9_l, ?_⟩
  obtain ⟨wd8, u8, l8, e1, e2, e3, e4, e5⟩ := HEND.out; exact ⟨_, _, wd8, u8, l8, e1, e2, e3.more (by omega), e4⟩
theorem statement_calls (g : Nat) (A : Option Addr) (c : Nat) (lt : List S39) (htk : TkOk lt) (a : Nat) (hexp : ∀ a1, a < a1 → CExpr g A c lt a1) (hexs : CExprS g A c lt a) (hbl : ∀ a1, a < a1 → CBlock g A c lt a1) (hbeg : CBegun g A c lt a) (hst : ∀ a1, a < a1 → CStatement g A c lt a1) : CStatement g A c lt a := by
 rintro W hP ⟨r, hr, h0⟩
 rcases stmt_vals hr h0 with rfl | rfl | rfl | rfl | rfl | rfl | ⟨rfl, hx⟩
 ·exact st_let g A c lt htk a hr hexp W hP
 ·exact st_fn g A c lt htk a hr hbl W hP
 ·exact st_if g A c lt htk a hr hexp hbl hst W hP
 ·exact st_while g A c lt htk a hr hexp hbl W hP
 ·exact st_return g A c lt htk a hr hexp W hP
 ·exact st_block g A c lt htk a hr hbeg W hP
 ·exact st_do g A c lt htk a hr hexp hexs hx W hP
end Go.Proofs.Ytghbfjmmjfklfaa.H
