/- The contract of the closure of tree.Right that goes down a tree and counts its nodes. -/
import Derived.Test.YtghbfjmmjfklfaaQHx0
import Derived.Test.YtghbfjmmjfklfaaQHxtreeleaf
import Derived.Outline
set_option linter.unusedVariables false
set_option linter.unusedSimpArgs false
namespace Go.Proofs.Ytghbfjmmjfklfaa.H
open Go.RowKit Go.Proofs.YtghbfjmmjfklfaaW.PrintWords Go.Proofs.YtghbfjmmjfklfaaW.PrintLast Go.Proofs.YtghbfjmmjfklfaaW.PrintMore
def leafB (k w wd : Int) (kids : List S27) : Bool := (tree_leaf.f k w wd kids).getD false
theorem ite_some {α : Type} {c : Prop} [Decidable c] {p q : Option α} (hp : ∃ b, p = some b) (hq : ∃ b, q = some b) : ∃ b, (if c then p else q) = some b := by
  split <;> assumption
theorem leaf_some (k w wd : Int) (kids : List S27) : tree_leaf.f k w wd kids = some (leafB k w wd kids) := by
  have ht : ∀ x, ∃ b, tree_token.f x = some b := fun x => by
    unfold tree_token.f
    repeat' (first | exact ⟨_, rfl⟩ | refine ite_some ?_ ?_)
  have : ∃ b, tree_leaf.f k w wd kids = some b := by
    unfold tree_leaf.f lex_Counts.f
    obtain ⟨b, hb⟩ := ht k
    rw [hb]
    simp only [Option.bind_some]
    repeat' (first | exact ⟨_, rfl⟩ | refine ite_some ?_ ?_)
  obtain ⟨b, hb⟩ := this
  unfold leafB
  rw [hb]
  rfl
mutual
/-- From a node on: how many nodes have been met, whether it may be. -/
def mayN : S27 → Int → Int → Int × Bool
  | ⟨k, w, wd, kids⟩, at_, c =>
    if wrap64 (c + 1) > 1048576 then (wrap64 (c + 1), false)
    else if at_ > 65536 then (wrap64 (c + 1), false)
    else if k ≤ 50 then (wrap64 (c + 1), leafB k w wd kids)
    else if k > 68 then (wrap64 (c + 1), false)
    else if w ≠ 0 then (wrap64 (c + 1), false)
    else if k = 51 ∧ at_ > 1 then (wrap64 (c + 1), false)
    else match mayL kids at_ (wrap64 (c + 1)) 0 with
      | (c', none) => (c', false)
      | (c', some sum) => (c', decide (sum = wd) && decide (sum ≤ 1099511627776))
/-- Of the kids of a node: how many nodes have been met, how wide they are, if they may be. -/
def mayL : List S27 → Int → Int → Int → Int × Option Int
  | [], _, c, sum => (c, some sum)
  | t :: r, at_, c, sum => match mayN t (wrap64 (at_ + 1)) c with
    | (c', false) => (c', none)
    | (c', true) => mayL r at_ c' (wrap64 (sum + t.f2))
end
def tree_Right.f (k w wd : Int) (kids : List S27) : Option Bool := some (mayN ⟨k, w, wd, kids⟩ 1 0).2
theorem heap27 : Kd.Heap k27 := Kd.heap_fix (fun d hd => Kd.heap_iso _ (Kd.heap_pair (Kd.heap_int _) (Kd.heap_pair (Kd.heap_int _) (Kd.heap_pair (Kd.heap_int _) (Kd.heap_slice _ hd)))))
theorem at_T27F {w : World} {ok : Nat → Prop} {A : Option Addr} {n : Nat} {xs : List S27} (h : Kd.F k27 w ok A n xs) (i : Nat) (h1 : i < n) : ∃ ad A3 c3, A = some ad ∧ w.cell? (ad.add (i * 4)) = some (.int .u8 (rd_T27 xs i).f0) ∧ w.cell? ⟨(ad.add (i * 4)).block, (ad.add (i * 4)).off + 1, none⟩ = some (.int .u8 (rd_T27 xs i).f1) ∧ w.cell? ⟨(ad.add (i * 4)).block, (ad.add (i * 4)).off + 2, none⟩ = some (.int .i64 (rd_T27 xs i).f2) ∧ w.cell? ⟨(ad.add (i * 4)).block, (ad.add (i * 4)).off + 3, none⟩ = some (.slice A3 (rd_T27 xs i).f3.length c3) ∧ (rd_T27 xs i).f3.length ≤ c3 ∧ Kd.F k27 w ok A3 (rd_T27 xs i).f3.length (rd_T27 xs i).f3 := by
  obtain ⟨ad, cs, he, _, hK, hc0, _⟩ := Kd.F_get h z27 (i : Int) (by omega) (by omega)
  have hc : ∀ j u, cs[j]? = some u → w.cell? (ad.add (i * 4 + j)) = some u := hc0
  have hK' : Kd.FK k27 w ok (rd_T27 xs i) cs := hK
  obtain ⟨A3, c3, rfl, l3, g3⟩ := k27_openF hK'
  exact ⟨ad, A3, c3, he, hc 0 _ rfl, by rw [← add_field _ _ 1 (by omega)]; exact hc 1 _ rfl, by rw [← add_field _ _ 2 (by omega)]; exact hc 2 _ rfl, by rw [← add_field _ _ 3 (by omega)]; exact hc 3 _ rfl, l3, g3⟩
theorem rd_at27 (xs : List S27) (i : Nat) (h : i < xs.length) : rd_T27 xs i = xs[i] := by
  simp [rd_T27, List.getD_eq_getElem?_getD, List.getElem?_eq_getElem h]
theorem grown_alloc {W W1 : World} {row : Option Nat} (h : W.grownBy W1 row) (o : Obj) : W.grownBy (W1.alloc o) row := World.grownBy.trans h (World.grownBy_alloc _ _ _)
abbrev one1 (v : Value) (t : Nat) : Obj := .cells #[v] t (0, 0)
abbrev mayV (g3 g4 : Nat) : Value := .func (.func 65) #[] #[.pointer (some ⟨g3, 0, none⟩), .pointer (some ⟨g4, 0, none⟩)]
def MayPost (t : S27) (at_ c : Int) (g3 : Nat) (W : World) (e : Ending) (W' : World) : Prop :=
  e = .returned (.bool (mayN t at_ c).2) ∧ W.grownBy W' (some g3) ∧ W'.heap[g3]? = some (one1 (.int .i64 (mayN t at_ c).1) 3)
set_option maxHeartbeats 4000000 in
set_option maxRecDepth 100000 in
theorem may_calls (n : Nat) : ∀ (t : S27), SizeOf.sizeOf t < n → ∀ (at_ c : Int) (A : Option Addr) (cp : Nat) (W : World) (g3 g4 : Nat), g3 ≠ g4 → W.heap[g3]? = some (one1 (.int .i64 c) 3) → W.heap[g4]? = some (one1 (mayV g3 g4) 112) →
    Kd.F k27 W (fun k => k ≠ g3) A t.f3.length t.f3 → t.f3.length ≤ cp →
    Calls Try.prog 65 #[.agg #[.int .u8 t.f0, .int .u8 t.f1, .int .i64 t.f2, .slice A t.f3.length cp], .int .i64 at_, .pointer (some ⟨g3, 0, none⟩), .pointer (some ⟨g4, 0, none⟩)] W (MayPost t at_ c g3 W) := by
  induction n with
  | zero => intro t h; exact absurd h (Nat.not_lt_zero _)
  | succ n ih =>
  rintro ⟨k, w, wd, kids⟩ ht at_ c A cp W g3 g4 hne h3 h4 hF hcp
  simp only at hF hcp ⊢
  have hl3 : g3 < W.heap.size := blk_lt h3
  have hl4 : g4 < W.heap.size := blk_lt h4
  have HT := Aside0.mk ht
  have IH := Aside0.mk ih
  have HF := Aside0.mk hF
  have HCP := Aside0.mk hcp
  have H3 := Aside0.mk h3
  have H4 := Aside0.mk h4
  have hk3 := blk_cell h3 0
  have hf3 := blk_frozen h3 0
  simp at hk3
  clear ht ih hF hcp h4 h3
  have hu := Try.underlying27
  go_enter Try.func65, Try.ntmps65
  go_upto_region 2 with (fail)
  obtain ⟨c1, hc1⟩ : ∃ c1, c1 = wrap64 (c + 1) := ⟨_, rfl⟩
  rw [← hc1]
  obtain ⟨W1, hW1⟩ : ∃ W1, W1 = (W.setCell ⟨g3, 0, none⟩ (.int .i64 c1)).alloc (.cells #[.int .u8 k, .int .u8 w, .int .i64 wd, .slice A kids.length cp] 27) := ⟨_, rfl⟩
  rw [← hW1]
  have hs : (W.setCell ⟨g3, 0, none⟩ (.int .i64 c1)).heap.size = W.heap.size := by simp
  have HX := Aside0.mk (show W1.heap[W.heap.size]? = some (.cells #[.int .u8 k, .int .u8 w, .int .i64 wd, .slice A kids.length cp] 27 (0, 0)) by rw [hW1, ← hs]; exact heap_alloc_new _ _)
  have HY3 := Aside0.mk (show W1.heap[g3]? = some (one1 (.int .i64 c1) 3) by rw [hW1, Below.heap_alloc _ _ _ (by rw [hs]; exact hl3)]; exact blk_set H3.out 0 _)
  have HG := Aside0.mk (show W.grownBy W1 (some g3) by
    rw [hW1]
    refine ⟨rfl, rfl, rfl, by simp, fun q hq hne' => ?_⟩
    rw [Below.heap_alloc _ _ _ (by rw [hs]; exact hq)]
    exact Below.heap_setCell _ _ _ _ (fun e => hne' (by rw [e])))
  have HY4 := Aside0.mk ((HG.out.block g4 hl4 (fun e => hne (Option.some.inj e).symm)).trans H4.out)
  have HF1 := Aside0.mk (Kd.F_grown HF.out HG.out (fun q hq e => hq (Option.some.inj e)))
  have hlb : W.heap.size < W1.heap.size := blk_lt HX.out
  have hneb : g3 ≠ W.heap.size := by omega
  have hkb0 := blk_cell HX.out 0
  have hkb1 := blk_cell HX.out 1
  have hkb2 := blk_cell HX.out 2
  have hkb3 := blk_cell HX.out 3
  have hk3' := blk_cell HY3.out 0
  simp at hkb0 hkb1 hkb2 hkb3 hk3'
  clear hW1 hs hk3 hf3 H3 H4 HF
  have HM := Aside0.mk (show mayN ⟨k, w, wd, kids⟩ at_ c = if c1 > 1048576 then (c1, false) else if at_ > 65536 then (c1, false) else if k ≤ 50 then (c1, leafB k w wd kids) else if k > 68 then (c1, false) else if w ≠ 0 then (c1, false) else if k = 51 ∧ at_ > 1 then (c1, false)
      else match mayL kids at_ c1 0 with | (c', none) => (c', false) | (c', some sum) => (c', decide (sum = wd) && decide (sum ≤ 1099511627776)) by rw [hc1]; simp only [mayN])
  clear hc1
  have fin : ∀ (b : Bool) (W' : World) (c' : Int), mayN ⟨k, w, wd, kids⟩ at_ c = (c', b) → W1.grownBy W' (some g3) → W'.heap[g3]? = some (one1 (.int .i64 c') 3) → MayPost ⟨k, w, wd, kids⟩ at_ c g3 W (.returned (.bool b)) W' := by
    intro b W' c' e g h
    refine ⟨by rw [e], World.grownBy.trans HG.out g, by rw [e]; exact h⟩
  have FIN := Aside0.mk fin
  clear fin
  by_cases t1 : c1 > 1048576
  · have HM2 := Aside0.mk (show mayN ⟨k, w, wd, kids⟩ at_ c = (c1, false) by rw [HM.out, if_pos t1])
    have b1 : decide (1048576 < c1) = true := decide_eq_true t1
    clear HM t1
    go_wp2
    go_ret
    exact FIN.out _ _ _ HM2.out (World.grownBy.refl _ _) HY3.out
  have b1 : decide (1048576 < c1) = false := decide_eq_false t1
  by_cases t2 : at_ > 65536
  · have HM2 := Aside0.mk (show mayN ⟨k, w, wd, kids⟩ at_ c = (c1, false) by rw [HM.out, if_neg t1, if_pos t2])
    have b2 : decide (65536 < at_) = true := decide_eq_true t2
    clear HM t1 t2
    go_wp2
    go_ret
    exact FIN.out _ _ _ HM2.out (World.grownBy.refl _ _) HY3.out
  have b2 : decide (65536 < at_) = false := decide_eq_false t2
  by_cases t3 : k ≤ 50
  · have HM2 := Aside0.mk (show mayN ⟨k, w, wd, kids⟩ at_ c = (c1, leafB k w wd kids) by rw [HM.out, if_neg t1, if_neg t2, if_pos t3])
    have b3 : decide (k ≤ 50) = true := decide_eq_true t3
    have HL := Aside0.mk (leaf_some k w wd kids)
    obtain ⟨q, hq⟩ : ∃ q, q = leafB k w wd kids := ⟨_, rfl⟩
    rw [← hq] at HM2 HL
    clear HM t1 t2 t3 hq
    go_wp2_with (go_at_call 66; refine (tree_leaf.calls k w wd A cp kids q _ (Kd.F_now HF1.out) HCP.out HL.out).mono ?_; rintro e w1 ⟨rfl, hb⟩; have HB := Aside0.mk hb; clear hb)
    go_ret
    exact FIN.out _ _ _ HM2.out (grown_of_below HB.out _) ((HB.out.block _ (blk_lt HY3.out)).trans HY3.out)
  have b3 : decide (k ≤ 50) = false := decide_eq_false t3
  by_cases t4 : k > 68
  · have HM2 := Aside0.mk (show mayN ⟨k, w, wd, kids⟩ at_ c = (c1, false) by rw [HM.out, if_neg t1, if_neg t2, if_neg t3, if_pos t4])
    have b4 : decide (68 < k) = true := decide_eq_true t4
    clear HM t1 t2 t3 t4
    go_wp2
    go_ret
    exact FIN.out _ _ _ HM2.out (World.grownBy.refl _ _) HY3.out
  have b4 : decide (68 < k) = false := decide_eq_false t4
  by_cases t5 : w = 0
  case neg =>
    have HM2 := Aside0.mk (show mayN ⟨k, w, wd, kids⟩ at_ c = (c1, false) by rw [HM.out, if_neg t1, if_neg t2, if_neg t3, if_neg t4, if_pos t5])
    have b5 : (w != 0) = true := bne_iff_ne.mpr t5
    have b5' : (w == 0) = false := beq_eq_false_iff_ne.mpr t5
    clear HM t1 t2 t3 t4 t5
    go_wp2
    go_ret
    exact FIN.out _ _ _ HM2.out (World.grownBy.refl _ _) HY3.out
  have b5 : (w != 0) = false := bne_eq_false_iff_eq.mpr t5
  have b5' : (w == 0) = true := beq_iff_eq.mpr t5
  by_cases t6 : k = 51 ∧ at_ > 1
  · have HM2 := Aside0.mk (show mayN ⟨k, w, wd, kids⟩ at_ c = (c1, false) by rw [HM.out, if_neg t1, if_neg t2, if_neg t3, if_neg t4, if_neg (by simpa using t5), if_pos t6])
    have b6 : (k == 51) = true := beq_iff_eq.mpr t6.1
    have b7 : decide (1 < at_) = true := decide_eq_true t6.2
    clear HM t1 t2 t3 t4 t5 t6
    go_wp2
    go_ret
    exact FIN.out _ _ _ HM2.out (World.grownBy.refl _ _) HY3.out
  have HM2 := Aside0.mk (show mayN ⟨k, w, wd, kids⟩ at_ c = _ by rw [HM.out, if_neg t1, if_neg t2, if_neg t3, if_neg t4, if_neg (by simpa using t5), if_neg t6])
  have hm : kids.length ≤ 9223372036854775807 := Kd.F_max HF1.out
  obtain ⟨q6, hq6⟩ : ∃ q6, q6 = (k == 51) := ⟨_, rfl⟩
  have b67 : (q6 = true ∧ (k == 51) = true ∧ decide (1 < at_) = false) ∨ (q6 = false ∧ (k == 51) = false) := by
    rw [hq6]
    by_cases e : k = 51
    · exact .inl ⟨beq_iff_eq.mpr e, beq_iff_eq.mpr e, decide_eq_false (fun h => t6 ⟨e, h⟩)⟩
    · exact .inr ⟨beq_eq_false_iff_ne.mpr e, beq_eq_false_iff_ne.mpr e⟩
  clear HM t1 t2 t3 t4 t5 t6 hq6
  have hq := fun (t : S27) (h : t ∈ kids) => (show SizeOf.sizeOf t < n by
    have h1 := List.sizeOf_lt_of_mem h
    have h2 := HT.out
    simp only [S27.mk.sizeOf_spec] at h2
    omega)
  have HQ := Aside0.mk hq
  clear hq HT
  rcases b67 with ⟨_, b6, b7⟩ | ⟨_, b6⟩
  all_goals
    go_wp2
    go_loopg [7, 43] kids.length (fun kq v7 v43 w' => ∃ (i : Nat) (c' sum : Int), v43 = .int .i64 i ∧ v7 = .int .i64 sum ∧ i ≤ kids.length ∧ Aside0 (kq = kids.length - i) ∧ Aside0 (W1.grownBy w' (some g3)) ∧ Aside0 (w'.heap[g3]? = some (one1 (.int .i64 c') 3)) ∧ Aside0 (mayL kids at_ c1 0 = mayL (kids.drop i) at_ c' sum))
    case atStart => exact ⟨0, c1, 0, rfl, rfl, Nat.zero_le _, ⟨rfl⟩, ⟨World.grownBy.refl _ _⟩, HY3, ⟨rfl⟩⟩
    case round =>
      clear hkb0 hkb1 hkb2 hkb3 hk3'
      obtain ⟨i, c', sum, rfl, rfl, hi, HK, HGR, HC3, HL⟩ := hrel
      have hX' := (HGR.out.block _ hlb (fun e => hneb (Option.some.inj e).symm)).trans HX.out
      have hkb0 := blk_cell hX' 0
      have hkb1 := blk_cell hX' 1
      have hkb2 := blk_cell hX' 2
      have hkb3 := blk_cell hX' 3
      have hY4' := (HGR.out.block g4 (blk_lt HY4.out) (fun e => hne (Option.some.inj e).symm)).trans HY4.out
      have hk4 := blk_cell hY4' 0
      simp at hkb0 hkb1 hkb2 hkb3 hk4
      have HX' := Aside0.mk hX'
      have HY4' := Aside0.mk hY4'
      clear hX' hY4'
      have HF' := Aside0.mk (Kd.F_grown HF1.out HGR.out (fun q hq e => hq (Option.some.inj e)))
      by_cases hlt : i < kids.length
      · obtain ⟨ad, A3, c3, e, g0, g1, g2, gg3, gl, gF⟩ := at_T27F HF'.out i hlt
        subst e
        obtain ⟨t, hts⟩ : ∃ t, t = rd_T27 kids i := ⟨_, rfl⟩
        rw [← hts] at g0 g1 g2 gg3 gl gF
        have HMEM := Aside0.mk (show t ∈ kids by rw [hts, rd_at27 kids i hlt]; exact List.getElem_mem hlt)
        have HL2 := Aside0.mk (show mayL kids at_ c1 0 = match mayN t (wrap64 (at_ + 1)) c' with | (c', false) => (c', none) | (c', true) => mayL (kids.drop (i + 1)) at_ c' (wrap64 (sum + t.f2)) by
          rw [HL.out, List.drop_eq_getElem_cons hlt, mayL, hts, rd_at27 kids i hlt])
        have GF := Aside0.mk gF
        have GL := Aside0.mk gl
        clear HL hts gF gl
        obtain ⟨tk, tw, twd, tks⟩ := t
        simp only at g0 g1 g2 gg3
        obtain ⟨r, hr⟩ : ∃ r, r = mayN ⟨tk, tw, twd, tks⟩ (wrap64 (at_ + 1)) c' := ⟨_, rfl⟩
        obtain ⟨rc, rb⟩ := r
        rw [← hr] at HL2
        have HR := Aside0.mk hr.symm
        clear hr
        have hlw : wr.heap.size < wr.heap.size + 1 := Nat.lt_succ_self _
        have hg3w : g3 < wr.heap.size := blk_lt HC3.out
        have hg3ne : g3 ≠ wr.heap.size := by omega
        have hg4w : g4 < wr.heap.size := blk_lt HY4'.out
        have hcall := fun (W2 : World) (hW2 : Below wr.heap.size wr W2) (cp : Nat) (hcp : tks.length ≤ cp) (hA : Kd.F k27 wr (fun k => k ≠ g3) A3 tks.length tks) => IH.out ⟨tk, tw, twd, tks⟩ (HQ.out _ HMEM.out) (wrap64 (at_ + 1)) c' A3 cp W2 g3 g4 hne ((hW2.block _ (blk_lt HC3.out)).trans HC3.out) ((hW2.block _ (blk_lt HY4'.out)).trans HY4'.out) (Kd.F_below hA hW2) hcp
        have HCALL := Aside0.mk hcall
        clear hcall
        cases rb with
        | true =>
          go_wp2_with (go_at_call 65; refine (HCALL.out _ (below_alloc (Below.refl _ _) _) _ GL.out GF.out).mono ?_; rintro e w1 ⟨rfl, hg, h3⟩; rw [HR.out] at h3 ⊢; have HG1 := Aside0.mk hg; have H31 := Aside0.mk h3; have hbx := (hg.block wr.heap.size (by simp) (fun e => hg3ne (Option.some.inj e).symm)).trans (heap_alloc_new wr _); have hb2 := blk_cell hbx 2; simp at hb2; clear hg h3 hbx)
          go_roundg (kids.length - (i + 1))
          case measure => have := HK.out; omega
          case rel => exact ⟨i + 1, rc, wrap64 (sum + twd), by go_num, rfl, by omega, ⟨rfl⟩, ⟨World.grownBy.trans (grown_alloc HGR.out _) HG1.out⟩, H31, ⟨HL2.out⟩⟩
        | false =>
          have HM3 := Aside0.mk (show mayN ⟨k, w, wd, kids⟩ at_ c = (rc, false) by rw [HM2.out, HL2.out])
          go_wp2_with (go_at_call 65; refine (HCALL.out _ (below_alloc (Below.refl _ _) _) _ GL.out GF.out).mono ?_; rintro e w1 ⟨rfl, hg, h3⟩; rw [HR.out] at h3 ⊢; have HG1 := Aside0.mk hg; have H31 := Aside0.mk h3; clear hg h3)
          go_ret
          exact FIN.out _ _ _ HM3.out (World.grownBy.trans (grown_alloc HGR.out _) HG1.out) H31.out
      · have hi2 : kids.length ≤ i := Nat.not_lt.1 hlt
        have HM3 := Aside0.mk (show mayN ⟨k, w, wd, kids⟩ at_ c = (c', decide (sum = wd) && decide (sum ≤ 1099511627776)) by
          rw [HM2.out, HL.out, List.drop_eq_nil_of_le hi2, mayL])
        by_cases s1 : sum = wd
        · have d1 : (sum == wd) = true := beq_iff_eq.mpr s1
          have HM4 := Aside0.mk (show mayN ⟨k, w, wd, kids⟩ at_ c = (c', decide (sum ≤ 1099511627776)) by rw [HM3.out, decide_eq_true s1, Bool.true_and])
          clear s1 HM3
          go_wp2
          go_ret
          exact FIN.out _ _ _ HM4.out HGR.out HC3.out
        · have d1 : (sum == wd) = false := beq_eq_false_iff_ne.mpr s1
          have HM4 := Aside0.mk (show mayN ⟨k, w, wd, kids⟩ at_ c = (c', false) by rw [HM3.out, decide_eq_false s1, Bool.false_and])
          clear s1 HM3
          go_wp2
          go_ret
          exact FIN.out _ _ _ HM4.out HGR.out HC3.out
end Go.Proofs.Ytghbfjmmjfklfaa.H
