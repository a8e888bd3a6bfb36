/- glossatorref17.parts: all that may be reused, in order. -/
import Derived.Test.YtghbfjmmjfklfaaQHCursorTake
set_option linter.unusedVariables false
set_option linter.unusedSimpArgs false
namespace Go.Proofs.Ytghbfjmmjfklfaa.H
open Go.RowKit Go.Proofs.YtghbfjmmjfklfaaW.PrintWords Go.Proofs.YtghbfjmmjfklfaaW.PrintLast Go.Proofs.YtghbfjmmjfklfaaW.PrintMore
abbrev Part3 := AT × Int × Int
abbrev rawP (x : Part3) : List Value := [.int .u8 x.1.k, .int .u8 x.1.w, .int .i64 x.1.wd, .slice x.1.A x.1.kids.length x.1.c, .int .i64 x.2.1, .int .i64 x.2.2]
mutual
/-- The parts of a tree, in order: the node, where it begins, how many tokens. -/
def partsT : AT → Int → List Part3
  | .node k w wd A c kids, at_ => if k < 50 then [] else (.node k w wd A c kids, at_, cntL kids) :: partsL kids at_
def partsL : List AT → Int → List Part3
  | [], _ => []
  | T :: r, at_ => partsT T at_ ++ partsL r (at_ + cntT T)
end
theorem partsL_take : ∀ (l : List AT) (i : Nat) (T : AT) (at_ : Int), l[i]? = some T → partsL (l.take (i + 1)) at_ = partsL (l.take i) at_ ++ partsT T (at_ + cntL (l.take i))
  | [], i, T, at_, h => by simp at h
  | x :: r, 0, T, at_, h => by simp at h; subst h; simp [partsL, cntL]
  | x :: r, i + 1, T, at_, h => by
    have := partsL_take r i T (at_ + cntT x) (by simpa using h)
    simp only [List.take_succ_cons, partsL, this, cntL, List.append_assoc, Int.add_assoc]
mutual
theorem partsT_len : ∀ (T : AT) (at_ : Int), (partsT T at_).length ≤ sizeT T
  | .node k w wd A c kids, at_ => by
    have := partsL_len kids at_
    simp only [partsT, sizeT]
    split
    · simp
    · simp only [List.length_cons]; omega
theorem partsL_len : ∀ (l : List AT) (at_ : Int), (partsL l at_).length ≤ sizeL l
  | [], at_ => by simp [partsL]
  | T :: r, at_ => by
    have h1 := partsT_len T at_
    have h2 := partsL_len r (at_ + cntT T)
    simp only [partsL, sizeL, List.length_append]
    omega
end
theorem infoPart : (Try.prog.info? 90).map (fun i => (i.zero, i.size, i.bytes)) = some (some (.agg #[.int .u8 0, .int .u8 0, .int .i64 0, .slice none 0 0, .int .i64 0, .int .i64 0]), 6, 56) := by kernel_rfl
def Own (W W' : World) (v v' : Value) : Prop := W.grownBy W' v.ownBlock ∧ (v'.ownBlock = v.ownBlock ∨ ∃ b, v'.ownBlock = some b ∧ W.heap.size ≤ b)
theorem Own.trans {W W1 W2 : World} {v v1 v2 : Value} (h : Own W W1 v v1) (h2 : Own W1 W2 v1 v2) : Own W W2 v v2 := by
  obtain ⟨g1, o1⟩ := h
  obtain ⟨g2, o2⟩ := h2
  refine ⟨?_, ?_⟩
  · rcases o1 with h | ⟨b, h, hb⟩
    · exact World.grownBy.trans g1 (by rw [← h]; exact g2)
    · exact ⟨g2.os.trans g1.os, g2.tape.trans g1.tape, g2.output.trans g1.output, Nat.le_trans g1.size g2.size, fun q hq hr => (g2.block q (Nat.lt_of_lt_of_le hq g1.size) (fun e => by rw [h] at e; injection e with e; omega)).trans (g1.block q hq hr)⟩
  · rcases o2 with h | ⟨b, h, hb⟩
    · rw [h]; exact o1
    · exact .inr ⟨b, h, Nat.le_trans g1.size hb⟩
theorem Own.low {W0 W W' : World} {v v' : Value} {B0 : Nat} (h : Own W W' v v') (hl : Below W0.heap.size W0 W) (hB : W0.heap.size ≤ B0) (hv : ∀ k, v.ownBlock = some k → B0 ≤ k) : Below W0.heap.size W0 W' :=
  hl.grown h.1 hl.size (fun k hk => Nat.le_trans hB (hv k hk))
theorem below_step2 {n : Nat} {W0 W X : World} (h : Below n W0 W) (hX : Below W.heap.size W X) (hn : n ≤ W.heap.size) : Below n W0 X := h.grown (grown_of_below hX none) hn (fun k hk => by cases hk)
set_option maxHeartbeats 8000000 in
set_option maxRecDepth 100000 in
theorem rparts_calls (W0 : World) (B0 : Nat) (hB0 : W0.heap.size ≤ B0) (z : Nat) : ∀ (T : AT), SizeOf.sizeOf T < z → AtT W0 T → ∀ (at_ : Int) (v : Value) (L : List Part3) (W : World), Below W0.heap.size W0 W → B0 ≤ W.heap.size →
    Kd.R (Kd.raw 6) 90 W B0 (fun q => B0 ≤ q) v (L.map rawP) → 0 ≤ at_ → at_ + sizeT T ≤ 1000000000 → L.length + sizeT T ≤ 1000000 →
    Calls Try.prog 41 #[v, T.val, .int .i64 at_] W fun e W' => ∃ v', e = .returned (.tuple #[v', .int .i64 (cntT T)]) ∧ Kd.R (Kd.raw 6) 90 W' B0 (fun q => B0 ≤ q) v' ((L ++ partsT T at_).map rawP) ∧ Own W W' v v' := by
  induction z with
  | zero => intro T h; exact absurd h (Nat.not_lt_zero _)
  | succ z ih =>
  rintro ⟨k, w1, wd, A, c, kids⟩ hz hT at_ v L W hlow hB hR hat has hlen
  simp only [AT.val, AT.k, AT.w, AT.wd, AT.A, AT.c, AT.kids]
  have IH := Aside0.mk ih
  have HZ := Aside0.mk hz
  have HT := Aside0.mk hT
  have HLOW := Aside0.mk hlow
  have HB := Aside0.mk hB
  simp only [sizeT] at has hlen
  have HAS := Aside0.mk has
  have HLEN := Aside0.mk hlen
  obtain ⟨X, hX⟩ : ∃ V, V = W.alloc (.cells #[.int .u8 k, .int .u8 w1, .int .i64 wd, .slice A kids.length c] 27) := ⟨_, rfl⟩
  have hbX : Below W.heap.size W X := by rw [hX]; exact below_alloc (Below.refl _ _) _
  have HBX := Aside0.mk hbX
  have HK := Aside0.mk (show X.heap[W.heap.size]? = some (.cells #[.int .u8 k, .int .u8 w1, .int .i64 wd, .slice A kids.length c] 27 (0, 0)) by rw [hX]; exact heap_alloc_new _ _)
  have HRX := Aside0.mk (Kd.R_below hR hbX)
  have HVL := Aside0.mk (show ∀ q, v.ownBlock = some q → q < W.heap.size from fun q hq => by have := (Kd.R_bound hR).1 q hq; exact this.2.2.1)
  have HVB := Aside0.mk (show ∀ q, v.ownBlock = some q → B0 ≤ q from hR.1)
  obtain ⟨Av, cv, rfl⟩ := Kd.R_slice hR
  rw [List.length_map] at *
  have hu := Try.underlying27
  have hup := Try.underlying90
  clear ih hz hT hlow hB hR hbX has hlen
  go_enter Try.func41, Try.ntmps41
  go_upto_region 1 with (fail)
  change Code.wp Try.prog _ _ _ (W.alloc (.cells #[.int .u8 k, .int .u8 w1, .int .i64 wd, .slice A kids.length c] 27))
  rw [← hX]
  clear hX
  have p0 := blk_cell HK.out 0
  have p1 := blk_cell HK.out 1
  have p2 := blk_cell HK.out 2
  have p3 := blk_cell HK.out 3
  have l1 := blk_lt HK.out
  simp at p0 p1 p2 p3
  by_cases hk : k < 50
  · go_wp2
    refine bodyPost_ret (results_tmp2 rfl _ _ _) rfl ?_
    simp only [cntT, partsT, if_pos hk, List.append_nil]
    exact ⟨_, rfl, HRX.out, grown_of_below HBX.out _, .inl rfl⟩
  · have HKN := Aside0.mk hk
    obtain ⟨x, hx⟩ : ∃ x : Part3, x = (AT.node k w1 wd A c kids, at_, 0) := ⟨_, rfl⟩
    have hxr : rawP x = [.int .u8 k, .int .u8 w1, .int .i64 wd, .slice A kids.length c, .int .i64 at_, .int .i64 0] := by rw [hx]; rfl
    have HXR := Aside0.mk hxr
    obtain ⟨Y, hY⟩ : ∃ V, V = X.alloc (.cells #[.int .u8 k, .int .u8 w1, .int .i64 wd, .slice A kids.length c, .int .i64 at_, .int .i64 0] 90) := ⟨_, rfl⟩
    have hbY : Below X.heap.size X Y := by rw [hY]; exact below_alloc (Below.refl _ _) _
    obtain ⟨g, cap, w5, hrun, hg5, hgo5, hbg5, hnl, hR5⟩ := append_elem (Kd.raw 6) 90 79 HRX.out (by have := HB.out; have := HBX.out.size; omega) (fun q hq => by have := HB.out; have := HBX.out.size; omega) Try.underlying79 infoPart rfl (by decide) (by decide) (by rw [List.length_map]; have := HLEN.out; omega) hbY (rawP x) (rawP x) (by rw [hY, hxr]; exact heap_alloc_new _ _) ⟨rfl, rfl, by rw [hxr]; intro u hu; simp at hu; rcases hu with rfl | rfl | rfl | rfl | rfl | rfl <;> rfl⟩ rfl (by rw [hxr]; intro u hu; simp at hu; rcases hu with rfl | rfl | rfl | rfl | rfl | rfl <;> rfl)
    rw [hY] at hrun
    have HOW5 := Aside0.mk (show Own X w5 (.slice Av L.length cv) (.slice (some ⟨g, 0, none⟩) (L.length + 1) cap) from ⟨hg5, hgo5.imp (fun h => by rw [h]; rfl) (fun h => ⟨g, rfl, h⟩)⟩)
    have HR5 := Aside0.mk (show Kd.R (Kd.raw 6) 90 w5 B0 (fun q => B0 ≤ q) (.slice (some ⟨g, 0, none⟩) (L.length + 1) cap) ((L ++ [x]).map rawP) by rw [List.map_append, List.map_singleton]; exact hR5)
    have hK5 : w5.heap[W.heap.size]? = some (.cells #[.int .u8 k, .int .u8 w1, .int .i64 wd, .slice A kids.length c] 27 (0, 0)) := (hg5.block _ l1 (fun e => by have := HVL.out _ e.symm; omega)).trans HK.out
    have HK5 := Aside0.mk hK5
    have HHX := Aside0.mk hx
    clear hY hbY hg5 hgo5 hR5 hx hxr hK5 hnl hbg5
    go_upto_region 4 with (fail)
    go_upto_region 5 with (at_builtin; refine wpL_append rfl _ _ _ rfl hrun ?_)
    obtain ⟨V1, hV1⟩ : ∃ V1, V1 = Value.slice (some ⟨g, 0, none⟩) (L.length + 1) cap := ⟨_, rfl⟩
    rw [← hV1] at HR5 HOW5
    rw [← hV1]
    clear p0 p1 p2 p3 l1 hrun hV1
    have HVB2 := Aside0.mk (show ∀ w' v', Own X w' (.slice Av L.length cv) v' → Below W0.heap.size W0 w' ∧ w'.heap[W.heap.size]? = some (.cells #[.int .u8 k, .int .u8 w1, .int .i64 wd, .slice A kids.length c] 27 (0, 0)) ∧ B0 ≤ w'.heap.size from fun w' v' h => ⟨h.low (below_step2 HLOW.out HBX.out HLOW.out.size) hB0 HVB.out, (h.1.block _ (blk_lt HK.out) (fun e => by have := HVL.out _ e.symm; omega)).trans HK.out, by have := HB.out; have := HBX.out.size; have := h.1.size; omega⟩)
    go_upto_region 7 with (fail)
    go_loopg [0, 9, 10] kids.length (fun kq v0 v9 v10 w' => ∃ (i : Nat) (vv : Value), vv = v0 ∧ v9 = .int .i64 (cntL (kids.take i)) ∧ v10 = .int .i64 i ∧ i ≤ kids.length ∧ Aside0 (kq = kids.length - i) ∧ Aside0 (Kd.R (Kd.raw 6) 90 w' B0 (fun q => B0 ≤ q) v0 ((L ++ [x] ++ partsL (kids.take i) at_).map rawP)) ∧ Aside0 (Own X w' (.slice Av L.length cv) v0))
    case atStart => exact ⟨0, _, rfl, by simp [cntL], rfl, Nat.zero_le _, ⟨rfl⟩, ⟨by rw [List.take_zero, partsL, List.append_nil]; exact HR5.out⟩, HOW5⟩
    case round =>
      obtain ⟨i, vv, rfl, rfl, rfl, hi, HKQ, HRI, HOI⟩ := hrel
      obtain ⟨hlw, hkw, hbw⟩ := HVB2.out _ _ HOI.out
      have HLW := Aside0.mk hlw
      have HKW := Aside0.mk hkw
      have HBW := Aside0.mk hbw
      clear hlw hbw
      have p3 := blk_cell hkw 3
      have l1 := blk_lt hkw
      simp at p3
      clear hkw
      by_cases hlt : i < kids.length
      · obtain ⟨adk, rfl, hw0, hTk⟩ := AtT.kid HT.out i hlt
        obtain ⟨T, hTe⟩ : ∃ T, T = kids[i] := ⟨_, rfl⟩
        rw [← hTe] at hw0 hTk
        have hie : kids[i]? = some T := by rw [hTe]; exact List.getElem?_eq_getElem hlt
        have HTK := Aside0.mk hTk
        have HIE := Aside0.mk hie
        have HSZ := Aside0.mk (show SizeOf.sizeOf T < z by have := List.sizeOf_lt_of_mem (List.mem_of_getElem? hie); have := HZ.out; simp at this; omega)
        have hc1 := cntL_take kids i T hie
        have hs1 := sizeL_take kids i T hie
        have hs2 := sizeL_mono kids (i + 1)
        have hc2 := (cntL_le (kids.take i))
        have hc3 := cntT_le T
        have hl5 := sizeL_len kids
        have hp1 := partsL_len (kids.take i) at_
        obtain ⟨q0, q1, q2, q3⟩ := hw0.below HLW.out
        have has := HAS.out
        have hlen := HLEN.out
        have HE := Aside0.mk hc1
        have HEP := Aside0.mk (partsL_take kids i T at_ hie)
        clear hie hTk hTe hw0
        have hcall := IH.out T HSZ.out HTK.out (at_ + cntL (kids.take i)) vv (L ++ [x] ++ partsL (kids.take i) at_) wr HLW.out HBW.out HRI.out (by omega) (by omega) (by simp only [List.length_append, List.length_singleton]; omega)
        simp only [AT.val] at hcall
        go_wp2_with (go_at_call 41; refine hcall.mono ?_; rintro e w5 ⟨v5, rfl, hR5, hO5⟩; have HR6 := Aside0.mk hR5; have HO6 := Aside0.mk hO5; clear hR5 hO5 hcall)
        go_roundg (kids.length - (i + 1))
        case measure => have := HKQ.out; omega
        case rel => exact ⟨i + 1, _, rfl, by rw [HE.out], by go_num, by omega, ⟨rfl⟩, ⟨by rw [HEP.out, ← List.append_assoc]; exact HR6.out⟩, ⟨HOI.out.trans HO6.out⟩⟩
      · obtain rfl : i = kids.length := by omega
        rw [List.take_length] at *
        obtain ⟨cn, hcn⟩ : ∃ cn, cn = cntL kids := ⟨_, rfl⟩
        rw [← hcn]
        have HCN := Aside0.mk hcn
        obtain ⟨PL, hPL⟩ : ∃ PL, PL = partsL kids at_ := ⟨_, rfl⟩
        rw [← hPL] at HRI
        have HPL := Aside0.mk hPL
        obtain ⟨g2, cap2, hv, hgb, hgl2, _⟩ := Kd.R_form HRI.out (by simp; omega)
        have hlen2 : ((L ++ [x] ++ PL).map rawP).length = L.length + 1 + PL.length := by simp; omega
        rw [hlen2] at hv
        subst hv
        obtain ⟨ce, hcl, hMM, hcc, hfr⟩ := Kd.R_elem HRI.out [] (L.length : Int) (by omega) (by omega)
        have hel : ((L ++ [x] ++ PL).map rawP).getD (L.length : Int).toNat [] = rawP x := by simp [List.getD_eq_getElem?_getD]
        rw [hel] at hMM
        obtain ⟨rfl, _⟩ : ce = rawP x ∧ True := ⟨hMM.1, trivial⟩
        have hseg := Kd.R_seg HRI.out (L.length : Int) (by omega) (by omega) (seg := [.int .i64 cn]) (j := 5) hcl hcc (show 5 + 1 ≤ 6 from by decide) (x' := rawP (x.1, x.2.1, cn)) (okp := fun _ => False) (by rw [HHX.out]; exact ⟨rfl, rfl, by intro u hu; simp at hu; rcases hu with rfl | rfl | rfl | rfl | rfl | rfl <;> rfl⟩) (fun _ hk => hk.elim)
        simp only [show (Kd.raw 6).sz = 6 from rfl, Int.toNat_natCast] at hcc hfr hseg
        have x5 : wr.cell? ⟨g2, L.length * 6 + 5, none⟩ = some (.int .i64 0) := hcc 5 _ (by rw [HXR.out]; rfl)
        have f5 := hfr 5
        have HSEG := Aside0.mk hseg
        clear hseg hcc hfr hMM hel hcl hcn hPL hlt hi hlen2
        have hl1 : (L.length : Int) < (L.length : Int) + 1 + PL.length := by omega
        go_wp2
        refine bodyPost_ret (results_tmp2 rfl _ _ _) rfl ?_
        have hls : ((L ++ [x] ++ PL).map rawP).set L.length (rawP (x.1, x.2.1, cn)) = (L ++ partsT (AT.node k w1 wd A c kids) at_).map rawP := by
          simp only [partsT, if_neg (show ¬ k < 50 from by have := HKN.out; omega)]
          rw [HHX.out, ← HPL.out, ← HCN.out]
          simp [List.set_append]
        have hR7 := HSEG.out.1
        rw [hls] at hR7
        have hO7 : Own X (wr.setCell ⟨g2, L.length * 6 + 5, none⟩ (.int .i64 cn)) (.slice Av L.length cv) (.slice (some ⟨g2, 0, none⟩) (L.length + 1 + PL.length) cap2) := HOI.out.trans ⟨HSEG.out.2, .inl rfl⟩
        refine ⟨_, ?_, hR7, World.grownBy.trans (grown_of_below HBX.out _) hO7.1, hO7.2.imp_right (fun ⟨q, h1, h2⟩ => ⟨q, h1, Nat.le_trans HBX.out.size h2⟩)⟩
        simp only [cntT, if_neg (show ¬ k < 50 from by have := HKN.out; omega)]
        rw [← HCN.out]
        rfl
end Go.Proofs.Ytghbfjmmjfklfaa.H
