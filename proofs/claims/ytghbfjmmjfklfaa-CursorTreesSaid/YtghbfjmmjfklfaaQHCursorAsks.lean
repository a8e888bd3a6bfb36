/- asks: it answers true. -/
import Derived.Test.YtghbfjmmjfklfaaQHCursorPut
import Derived.Test.YtghbfjmmjfklfaaQJ50
set_option linter.unusedVariables false
set_option linter.unusedSimpArgs false
namespace Go.Proofs.Ytghbfjmmjfklfaa.H
open Go.RowKit Go.Proofs.YtghbfjmmjfklfaaW.PrintWords Go.Proofs.YtghbfjmmjfklfaaW.PrintLast Go.Proofs.YtghbfjmmjfklfaaW.PrintMore
theorem infoTok : (Try.prog.info? 39).map (fun i => (i.zero, i.size, i.bytes)) = some (some (.agg #[.int .u8 0, .int .i64 0, .int .i64 0]), 3, 24) := by kernel_rfl
set_option maxHeartbeats 8000000 in
set_option maxRecDepth 100000 in
theorem asks_calls (W : World) (T : AT) (hT : AtT W T) (hby : byteT T.erase) (hts : tsize T.erase ≤ 1000000) (hsz : sizeT T ≤ 1000000) (Al : Option Addr) (cl : Nat) (l : List S39) (hr : Kd.C k39 W Al l.length l) (hc : l.length ≤ cl) (hl : l.length ≤ 1000000) (hk : ∀ t ∈ l, 0 ≤ t.f0) (fi oe ne : Int) (Aq : Option Addr) (cq : Nat) (q : List AskS) (hq : Kd.C kAsk W Aq q.length q) (hqc : q.length ≤ cq) (hql : q.length ≤ 200) (hqi : ∀ x ∈ q, (0 ≤ x.f0 ∧ x.f0 ≤ 255) ∧ inI x.f1) :
    Calls Try.prog 7 #[T.val, .slice Al l.length cl, .int .i64 fi, .int .i64 oe, .int .i64 ne, .slice Aq q.length cq] W fun e W' => e = .returned (.bool true) ∧ Below W.heap.size W W' := by
  obtain ⟨fit, hfit⟩ : ∃ fit, fit = fitsT T.erase l := ⟨_, rfl⟩
  have HTOK := Aside0.mk (show fit = true → TakeOk W T l.length from fun h => take_ok hT (cnt_fits T hby l (by rw [← hfit]; exact h)))
  have HCN := Aside0.mk (fun (w : World) (hw : Below W.heap.size W w) (Ai : Option Addr) (ci : Nat) (hi : Kd.C k39 w Ai l.length l) (hic : l.length ≤ ci) => cnew_calls w T (AtT.below hw T hT) hts hsz Ai ci l hi hic hl fi oe ne fit hfit.symm)
  have HRNW := Aside0.mk (fun (w : World) (hw : Below W.heap.size W w) => rnew_calls w T (AtT.below hw T hT) hby hts hsz Al cl l (Kd.C_below hr hw) hc hl fi oe ne fit hfit.symm)
  obtain ⟨KS, hKS⟩ := toks_self l hl
  have HKS := Aside0.mk (hKS KS (Nat.le_refl _))
  have HT := Aside0.mk hT
  have HTS := Aside0.mk hts
  have HSZ := Aside0.mk hsz
  have HR := Aside0.mk hr
  have HC := Aside0.mk hc
  have HKK := Aside0.mk hk
  have HQ := Aside0.mk hq
  have HQC := Aside0.mk hqc
  have HQI := Aside0.mk hqi
  have HLL := Aside0.mk hl
  have hu := Try.underlying27
  have huc := Try.underlying77
  have hua := Try.underlying54
  clear hr hc hk hq hqc hqi hKS hfit hT hby hts hsz hl
  obtain ⟨TT, hTT⟩ : ∃ TT, TT = T := ⟨_, rfl⟩
  rw [← hTT] at HTOK HCN HRNW HT HTS HSZ
  have HTE := Aside0.mk hTT
  obtain ⟨k, w1, wd, A, c, kids⟩ := T
  have htv : TT.val = .agg #[.int .u8 k, .int .u8 w1, .int .i64 wd, .slice A kids.length c] := by rw [hTT]; rfl
  rw [htv] at HCN HRNW
  clear hTT htv HTE
  simp only [AT.val, AT.k, AT.w, AT.wd, AT.A, AT.c, AT.kids]
  go_enter Try.func7, Try.ntmps7
  go_upto_region 1 with (fail)
  obtain ⟨X, hX⟩ : ∃ V, V = W.alloc (.cells #[.int .u8 k, .int .u8 w1, .int .i64 wd, .slice A kids.length c] 27) := ⟨_, rfl⟩
  have HBX := Aside0.mk (show Below W.heap.size W X by rw [hX]; exact below_alloc (Below.refl _ _) _)
  have HBOX := Aside0.mk (show X.heap[W.heap.size]? = some (.cells #[.int .u8 k, .int .u8 w1, .int .i64 wd, .slice A kids.length c] 27 (0, 0)) by rw [hX]; exact heap_alloc_new _ _)
  change Code.wp Try.prog _ _ _ (W.alloc (.cells #[.int .u8 k, .int .u8 w1, .int .i64 wd, .slice A kids.length c] 27))
  rw [← hX]
  clear hX
  have HRX := Aside0.mk (Kd.C_below HR.out HBX.out)
  go_upto_region 2 with (first | ((with_reducible refine gate_dst (N := 26) rfl ?_); refine Kd.R_lit k39 X.heap.size 39 ?hg (N := 26) ?hd (xs := ([] : List S39)) (inner := []) (ok := fun k => X.heap.size ≤ k) (okp := fun _ => False) ?hr ?hp (fun _ hk => hk.elim) (Nat.le_refl _) (Below.refl _ _) (Nat.le_refl _) (by simp) ?_; (case hd => rfl); (case hg => rfl); (case hr => first | (go_simp; done) | (go_simp; rfl)); (case hp => exact (Reps.none _ _)); intro v5 w5 ho5 hb5 hg_ hnew_; have HO5 := Aside0.mk ho5; have HB5 := Aside0.mk hb5; clear hg_ hnew_ ho5 hb5) | ((with_reducible refine gate_builtin (b := .append) (xs := #[.tmp 26, .tmp 27]) rfl ?_); at_builtin; refine Kd.R_append_rows k39 (w0 := X) X.heap.size rfl (.tmp 26) (.tmp 27) 23 39 (.agg #[.int .u8 0, .int .i64 0, .int .i64 0]) 24 rfl Try.underlying23 infoTok rfl (by decide) (by omega) v5 [] l _ _ _ (fun k => X.heap.size ≤ k) (fun _ => False) rfl rfl HO5.out (Kd.C_below HRX.out HB5.out) (fun x cs h => by obtain rfl := k39_open h; exact k39_mkM _ _ _ _) (fun _ h => h.elim) ?aF ?aB ?aS ?aL ?_; (case aB => exact HB5.out); (case aF => exact (fun k hk => Nat.le_trans HB5.out.size hk)); (case aS => exact HB5.out.size); (case aL => have := HLL.out; simp only [List.length_nil]; omega); intro v7 w7 ho7 hb7 hg hat; rw [List.nil_append] at ho7; obtain ⟨Ai, ci, rfl, hci, hCi⟩ := Kd.R_reads ho7; have HCI := Aside0.mk hCi; have HB7 := Aside0.mk hb7; have HLI := Aside0.mk hci; clear ho7 hb7 hg hat hci hCi))
  have HBW := Aside0.mk (below_step HBX.out HB7.out)
  have hbx := blk_below HBOX.out HB7.out
  have p0 := blk_cell hbx 0
  have p1 := blk_cell hbx 1
  have p2 := blk_cell hbx 2
  have p3 := blk_cell hbx 3
  simp at p0 p1 p2 p3
  clear hbx
  by_cases hz : errN fi oe ne l.length fit = 0
  · obtain ⟨ht1, ht2, ht3, ht4, ht5, ht6⟩ := err_fit hz
    have HTK := Aside0.mk (HTOK.out ht1)
    have HFI := Aside0.mk (show 0 ≤ fi ∧ fi ≤ ne ∧ ne ≤ 1048576 ∧ 0 ≤ oe ∧ oe ≤ 1000000 by have := HLL.out; exact ⟨ht2, ht4, ht6, by omega, by omega⟩)
    have HZ := Aside0.mk hz
    clear hz ht1 ht2 ht3 ht4 ht5 ht6 HTOK
    go_upto_region 3 with (go_at_call 12; refine (HCN.out w7 HBW.out Ai ci HCI.out HLI.out).mono ?_; rintro e w3 ⟨er, her, hb3, h3⟩; rcases h3 with ⟨hne, rfl⟩ | ⟨_, g, b, r, cap, nm, xs, rfl, hcn, hnm, hxl, hxb⟩; (exact absurd (her.trans HZ.out) hne); have HB3 := Aside0.mk hb3; have HCN3 := Aside0.mk hcn; have HXL := Aside0.mk hxl; have HXB := Aside0.mk hxb; clear hb3 hcn hnm hxl hxb her p0 p1 p2 p3)
    have hbx := blk_below HBOX.out (below_step HB7.out HB3.out)
    have p0 := blk_cell hbx 0
    have p1 := blk_cell hbx 1
    have p2 := blk_cell hbx 2
    have p3 := blk_cell hbx 3
    simp at p0 p1 p2 p3
    clear hbx
    go_upto_region 4 with (go_at_call 13; refine (HRNW.out w3 (below_step HBW.out HB3.out)).mono ?_; rintro e w4 ⟨er2, her2, hb4, h4⟩; rcases h4 with ⟨hne, rfl⟩ | ⟨_, g2, v2, rfl, hrn⟩; (exact absurd (her2.trans HZ.out) hne); have HB4 := Aside0.mk hb4; have HRN4 := Aside0.mk hrn; clear hb4 hrn her2 p0 p1 p2 p3)
    have HCN4 := Aside0.mk (HCN3.out.below HB4.out)
    have HRN4' := Aside0.mk HRN4.out.now
    have HGL := Aside0.mk (blk_lt HCN3.out.cur)
    clear HRN4 HCN HRNW
    go_wp2
    go_loopg [18, 19] q.length (fun kq v18 v19 w' => ∃ (i : Nat) (tk : Int), v19 = .int .i64 i ∧ v18 = .int .i64 tk ∧ i ≤ q.length ∧ 0 ≤ tk ∧ tk ≤ i ∧ Aside0 (kq = q.length - i) ∧ Aside0 (CN w7 w' w7.heap.size g b r cap fi oe ne tk nm (addT TT 0 fun _ => none) xs ∧ RN w' w' w3.heap.size g2 v2 fi oe ne (partsT TT 0) Al cl l))
    case atStart => exact ⟨0, 0, rfl, rfl, Nat.zero_le _, Int.le_refl _, Int.le_refl _, ⟨rfl⟩, ⟨HCN4.out, HRN4'.out⟩⟩
    case round =>
      obtain ⟨i, tk, rfl, rfl, hi, htk0, htk1, HK, HLP⟩ := hrel
      by_cases hlt : i < q.length
      · obtain ⟨x, hx⟩ : ∃ x, q[i]? = some x := ⟨_, List.getElem?_eq_getElem hlt⟩
        obtain ⟨adq, hadq, _, _⟩ := ask_at HQ.out i hlt x hx
        subst hadq
        obtain ⟨hxk, hxa⟩ := HQI.out x (List.mem_of_getElem? hx)
        obtain ⟨ak, aa⟩ := x
        simp only at hxk hxa
        have HSX := Aside0.mk (fun (w : World) (hw : Below w7.heap.size w7 w) => (show w.cell? (adq.add (i * 2)) = some (.int .u8 ak) ∧ w.cell? ⟨(adq.add (i * 2)).block, (adq.add (i * 2)).off + 1, none⟩ = some (.int .i64 aa) from by
          obtain ⟨ad2, e2, h0, h1⟩ := ask_at (Kd.C_below HQ.out (below_step HBW.out hw)) i hlt ⟨ak, aa⟩ hx
          obtain rfl := Option.some.inj e2
          exact ⟨h0, h1⟩))
        obtain ⟨o, ho⟩ : ∃ o, rtakeF fi oe ne (partsT TT 0) l ak aa = o := ⟨_, rfl⟩
        have HNO := Aside0.mk (rtake_node HTK.out ak aa ho)
        have HXA := Aside0.mk hxa
        have HXK := Aside0.mk hxk
        have HO := Aside0.mk ho
        clear hx hxk hxa ho
        have HTKB := Aside0.mk (show 0 ≤ tk ∧ tk ≤ 1000000 from ⟨htk0, by omega⟩)
        obtain ⟨on, hon⟩ : ∃ on, cntO o = on := ⟨_, rfl⟩
        obtain ⟨ob, hob⟩ : ∃ ob, o.isSome = ob := ⟨_, rfl⟩
        obtain ⟨TN, hTN⟩ : ∃ TN, nodeO o = TN := ⟨_, rfl⟩
        have HON := Aside0.mk hon
        have HOB := Aside0.mk hob
        have HTN := Aside0.mk hTN
        rw [hTN] at HNO
        clear hon hob hTN
        obtain ⟨nk, nw, nd, nA, nc, nl⟩ := TN
        have HTV := Aside0.mk (show (nodeO o).val = .agg #[.int .u8 nk, .int .u8 nw, .int .i64 nd, .slice nA nl.length nc] by rw [HTN.out]; rfl)
        go_upto_region 12 with (fail)
        go_cut [20, 21, 22] (fun v20 v21 v22 wx => ∃ b20, v20 = .pointer (some ⟨b20, 0, none⟩) ∧ v21 = .int .i64 on ∧ v22 = .bool ob ∧ Aside0 (wx.heap[b20]? = some (.cells #[.int .u8 nk, .int .u8 nw, .int .i64 nd, .slice nA nl.length nc] 27 (0, 0)) ∧ CN w7 wx w7.heap.size g b r cap fi oe ne (if ob then tk + 1 else tk) nm (addT TT 0 fun _ => none) xs ∧ RN wx wx w3.heap.size g2 v2 fi oe ne (partsT TT 0) Al cl l))
        case first =>
          obtain ⟨Y, hY⟩ : ∃ Y : World, Y = wr.drew := ⟨_, rfl⟩
          have HBD := Aside0.mk (show Below wr.heap.size wr Y by rw [hY]; exact (Below.refl _ _).drew)
          have HCY := Aside0.mk (HLP.out.1.below HBD.out)
          have HRY := Aside0.mk (HLP.out.2.below HBD.out).now
          refine wp_region_noPanic (plain_need [0, 1, 2, 3, 4, 5, 6, 7, 8, 9, 10, 11, 12, 13, 14, 15, 16, 17, 18, 19] (fun W' => W'.cell? (adq.add (i * 2)) = some (.int .u8 ak) ∧ W'.cell? ⟨(adq.add (i * 2)).block, (adq.add (i * 2)).off + 1, none⟩ = some (.int .i64 aa)) mixE ?_)
          rw [← hY]
          clear hY
          have HS0 := Aside0.mk (HSX.out Y HCY.out.low)
          refine wpAnyN_take (i := 0) (v := ?_) rfl (by kernel_rfl) (by kernel_rfl) (by kernel_rfl) (by kernel_rfl) (fun _ _ _ h => h) (.inl ⟨by rfl, ?_⟩) HS0.out ?_
          rotate_left
          · (intro W' hW'; obtain ⟨s0, s1⟩ := hW'; go_simp; try rfl)
          simp only [Act.put, List.setIfInBounds_toArray, List.set_cons_zero, List.set_cons_succ]
          refine wpAnyN_take (i := 1) (v := ?_) rfl (by kernel_rfl) (by kernel_rfl) (by kernel_rfl) (by kernel_rfl) (fun _ _ _ h => h) (.inl ⟨by rfl, ?_⟩) HS0.out ?_
          rotate_left
          · (intro W' hW'; obtain ⟨s0, s1⟩ := hW'; go_simp; try rfl)
          simp only [Act.put, List.setIfInBounds_toArray, List.set_cons_zero, List.set_cons_succ]
          refine wpAnyN_take (i := 2) (v := ?_) rfl (by kernel_rfl) (by kernel_rfl) (by kernel_rfl) (by kernel_rfl) (fun _ _ _ h => h) (.inl ⟨by rfl, ?_⟩) HS0.out ?_
          rotate_left
          · (intro W' hW'; obtain ⟨s0, s1⟩ := hW'; go_simp; try rfl)
          simp only [Act.put, List.setIfInBounds_toArray, List.set_cons_zero, List.set_cons_succ]
          refine wpAnyN_take (i := 3) (v := ?_) rfl (by kernel_rfl) (by kernel_rfl) (by kernel_rfl) (by kernel_rfl) (fun _ _ _ h => h) (.inl ⟨by rfl, ?_⟩) HS0.out ?_
          rotate_left
          · (intro W' hW'; obtain ⟨s0, s1⟩ := hW'; go_simp; try rfl)
          simp only [Act.put, List.setIfInBounds_toArray, List.set_cons_zero, List.set_cons_succ]
          refine wpAnyN_take (i := 4) (v := ?_) rfl (by kernel_rfl) (by kernel_rfl) (by kernel_rfl) (by kernel_rfl) (fun _ _ _ h => h) (.inl ⟨by rfl, ?_⟩) HS0.out ?_
          rotate_left
          · (intro W' hW'; obtain ⟨s0, s1⟩ := hW'; go_simp; try rfl)
          simp only [Act.put, List.setIfInBounds_toArray, List.set_cons_zero, List.set_cons_succ]
          refine wpAnyN_take (i := 5) (v := ?_) rfl (by kernel_rfl) (by kernel_rfl) (by kernel_rfl) (by kernel_rfl) (fun _ _ _ h => h) (.inl ⟨by rfl, ?_⟩) HS0.out ?_
          rotate_left
          · (intro W' hW'; obtain ⟨s0, s1⟩ := hW'; go_simp; try rfl)
          simp only [Act.put, List.setIfInBounds_toArray, List.set_cons_zero, List.set_cons_succ]
          refine wpAnyN_take (i := 6) (v := ?_) rfl (by kernel_rfl) (by kernel_rfl) (by kernel_rfl) (by kernel_rfl) (fun _ _ _ h => h) (.inl ⟨by rfl, ?_⟩) HS0.out ?_
          rotate_left
          · (intro W' hW'; obtain ⟨s0, s1⟩ := hW'; go_simp; try rfl)
          simp only [Act.put, List.setIfInBounds_toArray, List.set_cons_zero, List.set_cons_succ]
          refine wpAnyN_take (i := 7) (v := ?_) rfl (by kernel_rfl) (by kernel_rfl) (by kernel_rfl) (by kernel_rfl) (fun _ _ _ h => h) (.inl ⟨by rfl, ?_⟩) HS0.out ?_
          rotate_left
          · (intro W' hW'; obtain ⟨s0, s1⟩ := hW'; go_simp; try rfl)
          simp only [Act.put, List.setIfInBounds_toArray, List.set_cons_zero, List.set_cons_succ]
          refine wpAnyN_take (i := 8) (v := ?_) rfl (by kernel_rfl) (by kernel_rfl) (by kernel_rfl) (by kernel_rfl) (fun _ _ _ h => h) (.inl ⟨by rfl, ?_⟩) HS0.out ?_
          rotate_left
          · (intro W' hW'; obtain ⟨s0, s1⟩ := hW'; go_simp; try rfl)
          simp only [Act.put, List.setIfInBounds_toArray, List.set_cons_zero, List.set_cons_succ]
          refine wpAnyN_take (i := 9) (v := ?_) rfl (by kernel_rfl) (by kernel_rfl) (by kernel_rfl) (by kernel_rfl) (fun _ _ _ h => h) (.inl ⟨by rfl, ?_⟩) HS0.out ?_
          rotate_left
          · (intro W' hW'; obtain ⟨s0, s1⟩ := hW'; go_simp; try rfl)
          simp only [Act.put, List.setIfInBounds_toArray, List.set_cons_zero, List.set_cons_succ]
          refine wpAnyN_take (i := 10) (v := ?_) rfl (by kernel_rfl) (by kernel_rfl) (by kernel_rfl) (by kernel_rfl) (fun _ _ _ h => h) (.inl ⟨by rfl, ?_⟩) HS0.out ?_
          rotate_left
          · (intro W' hW'; obtain ⟨s0, s1⟩ := hW'; go_simp; try rfl)
          simp only [Act.put, List.setIfInBounds_toArray, List.set_cons_zero, List.set_cons_succ]
          refine wpAnyN_two (i := 11) (j := 16) rfl rfl (by decide +kernel) (fun K hK => ?_) (fun K hK => ?_)
          · have hcall := ctake_one HCY.out HTK.out HLL.out HXL.out HXB.out HFI.out HTKB.out ak aa HXK.out HXA.out HO.out
            rw [HTV.out, HON.out, HOB.out] at hcall
            go_simp
            refine hcall.mono ?_
            rintro e w5 ⟨hg5, rfl, hc5⟩
            have HG5 := Aside0.mk hg5
            have HC5 := Aside0.mk hc5
            have HR5 := Aside0.mk (HRY.out.next hg5 (by have := HGL.out; exact this) (Kd.C_below HR.out (below_step HBW.out hc5.low)))
            clear hcall hg5 hc5
            have HS5 := Aside0.mk (HSX.out w5 HC5.out.low)
            refine hK.out _ _ (fun _ => HS5.out) (fun _ => ?_)
            clear hK K
            try simp only [Act.put, List.setIfInBounds_toArray, List.set_cons_zero, List.set_cons_succ]
            refine wpAnyN_take (i := 12) (v := ?_) rfl (by kernel_rfl) (by kernel_rfl) (by kernel_rfl) (by kernel_rfl) (fun _ _ _ h => h) (.inl ⟨by rfl, ?_⟩) HS5.out ?_
            rotate_left
            · (intro W' hW'; obtain ⟨s0, s1⟩ := hW'; go_simp; try rfl)
            simp only [Act.put, List.setIfInBounds_toArray, List.set_cons_zero, List.set_cons_succ]
            refine wpAnyN_take (i := 13) (v := ?_) rfl (by kernel_rfl) (by kernel_rfl) (by kernel_rfl) (by kernel_rfl) (fun _ _ _ h => h) (.inl ⟨by rfl, ?_⟩) HS5.out ?_
            rotate_left
            · (intro W' hW'; obtain ⟨s0, s1⟩ := hW'; go_simp; try rfl)
            simp only [Act.put, List.setIfInBounds_toArray, List.set_cons_zero, List.set_cons_succ]
            refine wpAnyN_take (i := 14) (v := ?_) rfl (by kernel_rfl) (by kernel_rfl) (by kernel_rfl) (by kernel_rfl) (fun _ _ _ h => h) (.inl ⟨by rfl, ?_⟩) HS5.out ?_
            rotate_left
            · (intro W' hW'; obtain ⟨s0, s1⟩ := hW'; go_simp; try rfl)
            simp only [Act.put, List.setIfInBounds_toArray, List.set_cons_zero, List.set_cons_succ]
            refine wpAnyN_take (i := 15) (v := ?_) rfl (by kernel_rfl) (by kernel_rfl) (by kernel_rfl) (by kernel_rfl) (fun _ _ _ h => h) (.inl ⟨by rfl, ?_⟩) HS5.out ?_
            rotate_left
            · (intro W' hW'; obtain ⟨s0, s1⟩ := hW'; go_simp; try rfl)
            simp only [Act.put, List.setIfInBounds_toArray, List.set_cons_zero, List.set_cons_succ]
            refine wpAnyN_one (i := 16) rfl (by kernel_rfl) (fun K hK => ?_)
            go_simp
            obtain ⟨z, hz⟩ : ∃ z : World, z = w5.alloc (.cells #[.int .u8 0, .int .u8 0, .int .i64 0, .slice none 0 0] 27) := ⟨_, rfl⟩
            rw [← hz]
            have HBZ := Aside0.mk (show Below w5.heap.size w5 z by rw [hz]; exact below_alloc (Below.refl _ _) _)
            have HZB := Aside0.mk (show z.heap[w5.heap.size]? = some (.cells #[.int .u8 0, .int .u8 0, .int .i64 0, .slice none 0 0] 27 (0, 0)) by rw [hz]; exact heap_alloc_new _ _)
            have HCZ := Aside0.mk (HC5.out.below HBZ.out)
            have HRZ := Aside0.mk (HR5.out.below HBZ.out).now
            have HZN := Aside0.mk (show w7.heap.size ≤ w5.heap.size from HC5.out.low.size)
            have HSZ_ := Aside0.mk (HSX.out z HCZ.out.low)
            refine hK.out _ _ (fun _ => HSZ_.out) (fun _ => ?_)
            clear hK K
            try simp only [Act.put, List.setIfInBounds_toArray, List.set_cons_zero, List.set_cons_succ]
            clear hz
            obtain ⟨bn, hbn⟩ : ∃ bn, bn = w5.heap.size := ⟨_, rfl⟩
            rw [← hbn] at HZB HZN
            rw [← hbn]
            clear hbn
            clear HC5 HR5
            have r0 := blk_cell HZB.out 0
            have r1 := blk_cell HZB.out 1
            have r2 := blk_cell HZB.out 2
            have r3 := blk_cell HZB.out 3
            have f0 := blk_frozen HZB.out 0
            have f1 := blk_frozen HZB.out 1
            have f2 := blk_frozen HZB.out 2
            have f3 := blk_frozen HZB.out 3
            have lz := blk_lt HZB.out
            simp at r0 r1 r2 r3
            have HCE := Aside0.mk (HCZ.out.put4 HZB.out HZN.out (.int .u8 nk) (.int .u8 nw) (.int .i64 nd) (.slice nA nl.length nc))
            have HRE := Aside0.mk (HRZ.out.put4 HZB.out (.int .u8 nk) (.int .u8 nw) (.int .i64 nd) (.slice nA nl.length nc) (Kd.C_below HR.out (below_step HBW.out HCE.out.low)))
            have HSE := Aside0.mk (HSX.out _ HCE.out.low)
            refine wpAnyN_one (i := 17) rfl (by kernel_rfl) (fun K hK => ?_)
            go_simp
            refine hK.out _ _ (fun _ => HSE.out) (fun _ => ?_)
            clear hK K
            try simp only [Act.put, List.setIfInBounds_toArray, List.set_cons_zero, List.set_cons_succ]
            refine wpAnyN_take (i := 18) (v := ?_) rfl (by kernel_rfl) (by kernel_rfl) (by kernel_rfl) (by kernel_rfl) (fun _ _ _ h => h) (.inl ⟨by rfl, ?_⟩) HSE.out ?_
            rotate_left
            · (intro W' hW'; obtain ⟨s0, s1⟩ := hW'; go_simp; try rfl)
            simp only [Act.put, List.setIfInBounds_toArray, List.set_cons_zero, List.set_cons_succ]
            refine wpAnyN_take (i := 19) (v := ?_) rfl (by kernel_rfl) (by kernel_rfl) (by kernel_rfl) (by kernel_rfl) (fun _ _ _ h => h) (.inl ⟨by rfl, ?_⟩) HSE.out ?_
            rotate_left
            · (intro W' hW'; obtain ⟨s0, s1⟩ := hW'; go_simp; try rfl)
            simp only [Act.put, List.setIfInBounds_toArray, List.set_cons_zero, List.set_cons_succ]
            refine wpAnyN_done (by kernel_rfl) (NoPanic.normal ?_) _
            clear r0 r1 r2 r3 f0 f1 f2 f3 lz
            go_wp2_with fail
            go_meet
            exact ⟨bn, rfl, rfl, rfl, ⟨put4_at HZB.out _ _ _ _, HCE.out, HRE.out⟩⟩
          · go_simp
            obtain ⟨z0, hz⟩ : ∃ z : World, z = Y.alloc (.cells #[.int .u8 0, .int .u8 0, .int .i64 0, .slice none 0 0] 27) := ⟨_, rfl⟩
            rw [← hz]
            have HBZ := Aside0.mk (show Below Y.heap.size Y z0 by rw [hz]; exact below_alloc (Below.refl _ _) _)
            have HZB0 := Aside0.mk (show z0.heap[Y.heap.size]? = some (.cells #[.int .u8 0, .int .u8 0, .int .i64 0, .slice none 0 0] 27 (0, 0)) by rw [hz]; exact heap_alloc_new _ _)
            have HZN := Aside0.mk (show w7.heap.size ≤ Y.heap.size from HCY.out.low.size)
            have HGY := Aside0.mk (show g ≠ Y.heap.size by have := blk_lt HCY.out.cur; omega)
            have HCY_ := Aside0.mk (HCY.out.below HBZ.out)
            have HRY_ := Aside0.mk (HRY.out.below HBZ.out).now
            clear HCY HRY
            have HCY := HCY_
            have HRY := HRY_
            have HSZ_ := Aside0.mk (HSX.out z0 HCY.out.low)
            refine hK.out _ _ (fun _ => HSZ_.out) (fun _ => ?_)
            clear hK K
            try simp only [Act.put, List.setIfInBounds_toArray, List.set_cons_zero, List.set_cons_succ]
            clear hz
            obtain ⟨bn, hbn⟩ : ∃ bn, bn = Y.heap.size := ⟨_, rfl⟩
            rw [← hbn] at HZB0 HZN HGY
            rw [← hbn]
            clear hbn HS0 HBZ HBD
            refine wpAnyN_one (i := 11) rfl (by kernel_rfl) (fun K hK => ?_)
            have hcall := ctake_one HCY.out HTK.out HLL.out HXL.out HXB.out HFI.out HTKB.out ak aa HXK.out HXA.out HO.out
            rw [HTV.out, HON.out, HOB.out] at hcall
            go_simp
            refine hcall.mono ?_
            rintro e w5 ⟨hg5, rfl, hc5⟩
            have HG5 := Aside0.mk hg5
            have HC5 := Aside0.mk hc5
            have HR5 := Aside0.mk (HRY.out.next hg5 (by have := HGL.out; exact this) (Kd.C_below HR.out (below_step HBW.out hc5.low)))
            have HZB := Aside0.mk ((hg5.block _ (blk_lt HZB0.out) (fun e => HGY.out (Option.some.inj e).symm)).trans HZB0.out)
            clear hcall hg5 hc5
            have HS5 := Aside0.mk (HSX.out w5 HC5.out.low)
            refine hK.out _ _ (fun _ => HS5.out) (fun _ => ?_)
            clear hK K
            try simp only [Act.put, List.setIfInBounds_toArray, List.set_cons_zero, List.set_cons_succ]
            refine wpAnyN_take (i := 12) (v := ?_) rfl (by kernel_rfl) (by kernel_rfl) (by kernel_rfl) (by kernel_rfl) (fun _ _ _ h => h) (.inl ⟨by rfl, ?_⟩) HS5.out ?_
            rotate_left
            · (intro W' hW'; obtain ⟨s0, s1⟩ := hW'; go_simp; try rfl)
            simp only [Act.put, List.setIfInBounds_toArray, List.set_cons_zero, List.set_cons_succ]
            refine wpAnyN_take (i := 13) (v := ?_) rfl (by kernel_rfl) (by kernel_rfl) (by kernel_rfl) (by kernel_rfl) (fun _ _ _ h => h) (.inl ⟨by rfl, ?_⟩) HS5.out ?_
            rotate_left
            · (intro W' hW'; obtain ⟨s0, s1⟩ := hW'; go_simp; try rfl)
            simp only [Act.put, List.setIfInBounds_toArray, List.set_cons_zero, List.set_cons_succ]
            refine wpAnyN_take (i := 14) (v := ?_) rfl (by kernel_rfl) (by kernel_rfl) (by kernel_rfl) (by kernel_rfl) (fun _ _ _ h => h) (.inl ⟨by rfl, ?_⟩) HS5.out ?_
            rotate_left
            · (intro W' hW'; obtain ⟨s0, s1⟩ := hW'; go_simp; try rfl)
            simp only [Act.put, List.setIfInBounds_toArray, List.set_cons_zero, List.set_cons_succ]
            refine wpAnyN_take (i := 15) (v := ?_) rfl (by kernel_rfl) (by kernel_rfl) (by kernel_rfl) (by kernel_rfl) (fun _ _ _ h => h) (.inl ⟨by rfl, ?_⟩) HS5.out ?_
            rotate_left
            · (intro W' hW'; obtain ⟨s0, s1⟩ := hW'; go_simp; try rfl)
            simp only [Act.put, List.setIfInBounds_toArray, List.set_cons_zero, List.set_cons_succ]
            obtain ⟨z, hz⟩ : ∃ z : World, z = w5 := ⟨_, rfl⟩
            have HCZ := HC5
            have HRZ := HR5
            rw [← hz] at HZB HCZ HRZ
            rw [← hz]
            clear hz
            clear HC5 HR5
            have r0 := blk_cell HZB.out 0
            have r1 := blk_cell HZB.out 1
            have r2 := blk_cell HZB.out 2
            have r3 := blk_cell HZB.out 3
            have f0 := blk_frozen HZB.out 0
            have f1 := blk_frozen HZB.out 1
            have f2 := blk_frozen HZB.out 2
            have f3 := blk_frozen HZB.out 3
            have lz := blk_lt HZB.out
            simp at r0 r1 r2 r3
            have HCE := Aside0.mk (HCZ.out.put4 HZB.out HZN.out (.int .u8 nk) (.int .u8 nw) (.int .i64 nd) (.slice nA nl.length nc))
            have HRE := Aside0.mk (HRZ.out.put4 HZB.out (.int .u8 nk) (.int .u8 nw) (.int .i64 nd) (.slice nA nl.length nc) (Kd.C_below HR.out (below_step HBW.out HCE.out.low)))
            have HSE := Aside0.mk (HSX.out _ HCE.out.low)
            refine wpAnyN_one (i := 17) rfl (by kernel_rfl) (fun K hK => ?_)
            go_simp
            refine hK.out _ _ (fun _ => HSE.out) (fun _ => ?_)
            clear hK K
            try simp only [Act.put, List.setIfInBounds_toArray, List.set_cons_zero, List.set_cons_succ]
            refine wpAnyN_take (i := 18) (v := ?_) rfl (by kernel_rfl) (by kernel_rfl) (by kernel_rfl) (by kernel_rfl) (fun _ _ _ h => h) (.inl ⟨by rfl, ?_⟩) HSE.out ?_
            rotate_left
            · (intro W' hW'; obtain ⟨s0, s1⟩ := hW'; go_simp; try rfl)
            simp only [Act.put, List.setIfInBounds_toArray, List.set_cons_zero, List.set_cons_succ]
            refine wpAnyN_take (i := 19) (v := ?_) rfl (by kernel_rfl) (by kernel_rfl) (by kernel_rfl) (by kernel_rfl) (fun _ _ _ h => h) (.inl ⟨by rfl, ?_⟩) HSE.out ?_
            rotate_left
            · (intro W' hW'; obtain ⟨s0, s1⟩ := hW'; go_simp; try rfl)
            simp only [Act.put, List.setIfInBounds_toArray, List.set_cons_zero, List.set_cons_succ]
            refine wpAnyN_done (by kernel_rfl) (NoPanic.normal ?_) _
            clear r0 r1 r2 r3 f0 f1 f2 f3 lz
            go_wp2_with fail
            go_meet
            exact ⟨bn, rfl, rfl, rfl, ⟨put4_at HZB.out _ _ _ _, HCE.out, HRE.out⟩⟩
        case rest =>
          obtain ⟨wx, rfl⟩ : ∃ w_ : World, w_ = wc := ⟨_, rfl⟩
          obtain ⟨b20, rfl, rfl, rfl, HX⟩ := hcut
          go_upto_region 13 with (fail)
          go_cut [23, 24, 25] (fun v23 v24 v25 wx => ∃ b23, v23 = .pointer (some ⟨b23, 0, none⟩) ∧ v24 = .int .i64 on ∧ v25 = .bool ob ∧ Aside0 (wx.heap[b23]? = some (.cells #[.int .u8 nk, .int .u8 nw, .int .i64 nd, .slice nA nl.length nc] 27 (0, 0)) ∧ wx.heap[b20]? = some (.cells #[.int .u8 nk, .int .u8 nw, .int .i64 nd, .slice nA nl.length nc] 27 (0, 0)) ∧ CN w7 wx w7.heap.size g b r cap fi oe ne (if ob then tk + 1 else tk) nm (addT TT 0 fun _ => none) xs ∧ RN wx wx w3.heap.size g2 v2 fi oe ne (partsT TT 0) Al cl l))
          case first =>
            obtain ⟨Y, hY⟩ : ∃ Y : World, Y = wx.drew := ⟨_, rfl⟩
            have HBD := Aside0.mk (show Below wx.heap.size wx Y by rw [hY]; exact (Below.refl _ _).drew)
            have H20 := Aside0.mk (blk_below HX.out.1 HBD.out)
            have HCY := Aside0.mk (HX.out.2.1.below HBD.out)
            have HRY := Aside0.mk (HX.out.2.2.below HBD.out).now
            refine wp_region_noPanic (plain_need [0, 1, 2, 3, 4, 5, 6, 7, 8, 9, 10, 11, 12, 13, 14, 15, 16, 17, 18, 19] (fun W' => W'.cell? (adq.add (i * 2)) = some (.int .u8 ak) ∧ W'.cell? ⟨(adq.add (i * 2)).block, (adq.add (i * 2)).off + 1, none⟩ = some (.int .i64 aa)) mixE ?_)
            rw [← hY]
            clear hY
            have HS0 := Aside0.mk (HSX.out Y HCY.out.low)
            refine wpAnyN_take (i := 0) (v := ?_) rfl (by kernel_rfl) (by kernel_rfl) (by kernel_rfl) (by kernel_rfl) (fun _ _ _ h => h) (.inl ⟨by rfl, ?_⟩) HS0.out ?_
            rotate_left
            · (intro W' hW'; obtain ⟨s0, s1⟩ := hW'; go_simp; try rfl)
            simp only [Act.put, List.setIfInBounds_toArray, List.set_cons_zero, List.set_cons_succ]
            refine wpAnyN_take (i := 1) (v := ?_) rfl (by kernel_rfl) (by kernel_rfl) (by kernel_rfl) (by kernel_rfl) (fun _ _ _ h => h) (.inl ⟨by rfl, ?_⟩) HS0.out ?_
            rotate_left
            · (intro W' hW'; obtain ⟨s0, s1⟩ := hW'; go_simp; try rfl)
            simp only [Act.put, List.setIfInBounds_toArray, List.set_cons_zero, List.set_cons_succ]
            refine wpAnyN_take (i := 2) (v := ?_) rfl (by kernel_rfl) (by kernel_rfl) (by kernel_rfl) (by kernel_rfl) (fun _ _ _ h => h) (.inl ⟨by rfl, ?_⟩) HS0.out ?_
            rotate_left
            · (intro W' hW'; obtain ⟨s0, s1⟩ := hW'; go_simp; try rfl)
            simp only [Act.put, List.setIfInBounds_toArray, List.set_cons_zero, List.set_cons_succ]
            refine wpAnyN_take (i := 3) (v := ?_) rfl (by kernel_rfl) (by kernel_rfl) (by kernel_rfl) (by kernel_rfl) (fun _ _ _ h => h) (.inl ⟨by rfl, ?_⟩) HS0.out ?_
            rotate_left
            · (intro W' hW'; obtain ⟨s0, s1⟩ := hW'; go_simp; try rfl)
            simp only [Act.put, List.setIfInBounds_toArray, List.set_cons_zero, List.set_cons_succ]
            refine wpAnyN_take (i := 4) (v := ?_) rfl (by kernel_rfl) (by kernel_rfl) (by kernel_rfl) (by kernel_rfl) (fun _ _ _ h => h) (.inl ⟨by rfl, ?_⟩) HS0.out ?_
            rotate_left
            · (intro W' hW'; obtain ⟨s0, s1⟩ := hW'; go_simp; try rfl)
            simp only [Act.put, List.setIfInBounds_toArray, List.set_cons_zero, List.set_cons_succ]
            refine wpAnyN_take (i := 5) (v := ?_) rfl (by kernel_rfl) (by kernel_rfl) (by kernel_rfl) (by kernel_rfl) (fun _ _ _ h => h) (.inl ⟨by rfl, ?_⟩) HS0.out ?_
            rotate_left
            · (intro W' hW'; obtain ⟨s0, s1⟩ := hW'; go_simp; try rfl)
            simp only [Act.put, List.setIfInBounds_toArray, List.set_cons_zero, List.set_cons_succ]
            refine wpAnyN_take (i := 6) (v := ?_) rfl (by kernel_rfl) (by kernel_rfl) (by kernel_rfl) (by kernel_rfl) (fun _ _ _ h => h) (.inl ⟨by rfl, ?_⟩) HS0.out ?_
            rotate_left
            · (intro W' hW'; obtain ⟨s0, s1⟩ := hW'; go_simp; try rfl)
            simp only [Act.put, List.setIfInBounds_toArray, List.set_cons_zero, List.set_cons_succ]
            refine wpAnyN_take (i := 7) (v := ?_) rfl (by kernel_rfl) (by kernel_rfl) (by kernel_rfl) (by kernel_rfl) (fun _ _ _ h => h) (.inl ⟨by rfl, ?_⟩) HS0.out ?_
            rotate_left
            · (intro W' hW'; obtain ⟨s0, s1⟩ := hW'; go_simp; try rfl)
            simp only [Act.put, List.setIfInBounds_toArray, List.set_cons_zero, List.set_cons_succ]
            refine wpAnyN_take (i := 8) (v := ?_) rfl (by kernel_rfl) (by kernel_rfl) (by kernel_rfl) (by kernel_rfl) (fun _ _ _ h => h) (.inl ⟨by rfl, ?_⟩) HS0.out ?_
            rotate_left
            · (intro W' hW'; obtain ⟨s0, s1⟩ := hW'; go_simp; try rfl)
            simp only [Act.put, List.setIfInBounds_toArray, List.set_cons_zero, List.set_cons_succ]
            refine wpAnyN_take (i := 9) (v := ?_) rfl (by kernel_rfl) (by kernel_rfl) (by kernel_rfl) (by kernel_rfl) (fun _ _ _ h => h) (.inl ⟨by rfl, ?_⟩) HS0.out ?_
            rotate_left
            · (intro W' hW'; obtain ⟨s0, s1⟩ := hW'; go_simp; try rfl)
            simp only [Act.put, List.setIfInBounds_toArray, List.set_cons_zero, List.set_cons_succ]
            refine wpAnyN_take (i := 10) (v := ?_) rfl (by kernel_rfl) (by kernel_rfl) (by kernel_rfl) (by kernel_rfl) (fun _ _ _ h => h) (.inl ⟨by rfl, ?_⟩) HS0.out ?_
            rotate_left
            · (intro W' hW'; obtain ⟨s0, s1⟩ := hW'; go_simp; try rfl)
            simp only [Act.put, List.setIfInBounds_toArray, List.set_cons_zero, List.set_cons_succ]
            refine wpAnyN_two (i := 11) (j := 16) rfl rfl (by decide +kernel) (fun K hK => ?_) (fun K hK => ?_)
            · have hcall := rtake_one HRY.out HTK.out (below_step HBW.out HCY.out.low) HC.out HLL.out HKK.out HSZ.out HFI.out ak aa HXK.out HXA.out HO.out
              rw [HTV.out, HON.out, HOB.out] at hcall
              go_simp
              refine hcall.mono ?_
              rintro e w5 ⟨hb5, rfl⟩
              have HB5 := Aside0.mk hb5
              have HC5 := Aside0.mk (HCY.out.below hb5)
              have HR5 := Aside0.mk (HRY.out.below hb5).now
              have H20' := Aside0.mk (blk_below H20.out hb5)
              clear hcall hb5
              have HS5 := Aside0.mk (HSX.out w5 HC5.out.low)
              refine hK.out _ _ (fun _ => HS5.out) (fun _ => ?_)
              clear hK K
              try simp only [Act.put, List.setIfInBounds_toArray, List.set_cons_zero, List.set_cons_succ]
              refine wpAnyN_take (i := 12) (v := ?_) rfl (by kernel_rfl) (by kernel_rfl) (by kernel_rfl) (by kernel_rfl) (fun _ _ _ h => h) (.inl ⟨by rfl, ?_⟩) HS5.out ?_
              rotate_left
              · (intro W' hW'; obtain ⟨s0, s1⟩ := hW'; go_simp; try rfl)
              simp only [Act.put, List.setIfInBounds_toArray, List.set_cons_zero, List.set_cons_succ]
              refine wpAnyN_take (i := 13) (v := ?_) rfl (by kernel_rfl) (by kernel_rfl) (by kernel_rfl) (by kernel_rfl) (fun _ _ _ h => h) (.inl ⟨by rfl, ?_⟩) HS5.out ?_
              rotate_left
              · (intro W' hW'; obtain ⟨s0, s1⟩ := hW'; go_simp; try rfl)
              simp only [Act.put, List.setIfInBounds_toArray, List.set_cons_zero, List.set_cons_succ]
              refine wpAnyN_take (i := 14) (v := ?_) rfl (by kernel_rfl) (by kernel_rfl) (by kernel_rfl) (by kernel_rfl) (fun _ _ _ h => h) (.inl ⟨by rfl, ?_⟩) HS5.out ?_
              rotate_left
              · (intro W' hW'; obtain ⟨s0, s1⟩ := hW'; go_simp; try rfl)
              simp only [Act.put, List.setIfInBounds_toArray, List.set_cons_zero, List.set_cons_succ]
              refine wpAnyN_take (i := 15) (v := ?_) rfl (by kernel_rfl) (by kernel_rfl) (by kernel_rfl) (by kernel_rfl) (fun _ _ _ h => h) (.inl ⟨by rfl, ?_⟩) HS5.out ?_
              rotate_left
              · (intro W' hW'; obtain ⟨s0, s1⟩ := hW'; go_simp; try rfl)
              simp only [Act.put, List.setIfInBounds_toArray, List.set_cons_zero, List.set_cons_succ]
              refine wpAnyN_one (i := 16) rfl (by kernel_rfl) (fun K hK => ?_)
              go_simp
              obtain ⟨z, hz⟩ : ∃ z : World, z = w5.alloc (.cells #[.int .u8 0, .int .u8 0, .int .i64 0, .slice none 0 0] 27) := ⟨_, rfl⟩
              rw [← hz]
              have HBZ := Aside0.mk (show Below w5.heap.size w5 z by rw [hz]; exact below_alloc (Below.refl _ _) _)
              have HZB := Aside0.mk (show z.heap[w5.heap.size]? = some (.cells #[.int .u8 0, .int .u8 0, .int .i64 0, .slice none 0 0] 27 (0, 0)) by rw [hz]; exact heap_alloc_new _ _)
              have HCZ := Aside0.mk (HC5.out.below HBZ.out)
              have HRZ := Aside0.mk (HR5.out.below HBZ.out).now
              have HZN := Aside0.mk (show w7.heap.size ≤ w5.heap.size from HC5.out.low.size)
              have HZ20 := Aside0.mk (blk_below H20'.out HBZ.out)
              have HNE := Aside0.mk (show b20 ≠ w5.heap.size by have := blk_lt H20'.out; omega)
              have HSZ_ := Aside0.mk (HSX.out z HCZ.out.low)
              refine hK.out _ _ (fun _ => HSZ_.out) (fun _ => ?_)
              clear hK K
              try simp only [Act.put, List.setIfInBounds_toArray, List.set_cons_zero, List.set_cons_succ]
              clear hz
              obtain ⟨bn, hbn⟩ : ∃ bn, bn = w5.heap.size := ⟨_, rfl⟩
              rw [← hbn] at HZB HZN HNE
              rw [← hbn]
              clear hbn
              clear HC5 HR5
              have r0 := blk_cell HZB.out 0
              have r1 := blk_cell HZB.out 1
              have r2 := blk_cell HZB.out 2
              have r3 := blk_cell HZB.out 3
              have f0 := blk_frozen HZB.out 0
              have f1 := blk_frozen HZB.out 1
              have f2 := blk_frozen HZB.out 2
              have f3 := blk_frozen HZB.out 3
              have lz := blk_lt HZB.out
              simp at r0 r1 r2 r3
              have HCE := Aside0.mk (HCZ.out.put4 HZB.out HZN.out (.int .u8 nk) (.int .u8 nw) (.int .i64 nd) (.slice nA nl.length nc))
              have HRE := Aside0.mk (HRZ.out.put4 HZB.out (.int .u8 nk) (.int .u8 nw) (.int .i64 nd) (.slice nA nl.length nc) (Kd.C_below HR.out (below_step HBW.out HCE.out.low)))
              have HSE := Aside0.mk (HSX.out _ HCE.out.low)
              refine wpAnyN_one (i := 17) rfl (by kernel_rfl) (fun K hK => ?_)
              go_simp
              refine hK.out _ _ (fun _ => HSE.out) (fun _ => ?_)
              clear hK K
              try simp only [Act.put, List.setIfInBounds_toArray, List.set_cons_zero, List.set_cons_succ]
              refine wpAnyN_take (i := 18) (v := ?_) rfl (by kernel_rfl) (by kernel_rfl) (by kernel_rfl) (by kernel_rfl) (fun _ _ _ h => h) (.inl ⟨by rfl, ?_⟩) HSE.out ?_
              rotate_left
              · (intro W' hW'; obtain ⟨s0, s1⟩ := hW'; go_simp; try rfl)
              simp only [Act.put, List.setIfInBounds_toArray, List.set_cons_zero, List.set_cons_succ]
              refine wpAnyN_take (i := 19) (v := ?_) rfl (by kernel_rfl) (by kernel_rfl) (by kernel_rfl) (by kernel_rfl) (fun _ _ _ h => h) (.inl ⟨by rfl, ?_⟩) HSE.out ?_
              rotate_left
              · (intro W' hW'; obtain ⟨s0, s1⟩ := hW'; go_simp; try rfl)
              simp only [Act.put, List.setIfInBounds_toArray, List.set_cons_zero, List.set_cons_succ]
              refine wpAnyN_done (by kernel_rfl) (NoPanic.normal ?_) _
              clear r0 r1 r2 r3 f0 f1 f2 f3 lz
              go_wp2_with fail
              go_meet
              exact ⟨bn, rfl, rfl, rfl, ⟨put4_at HZB.out _ _ _ _, (put4_other HNE.out _ _ _ _).trans HZ20.out, HCE.out, HRE.out⟩⟩
            · go_simp
              obtain ⟨z0, hz⟩ : ∃ z : World, z = Y.alloc (.cells #[.int .u8 0, .int .u8 0, .int .i64 0, .slice none 0 0] 27) := ⟨_, rfl⟩
              rw [← hz]
              have HBZ := Aside0.mk (show Below Y.heap.size Y z0 by rw [hz]; exact below_alloc (Below.refl _ _) _)
              have HZB0 := Aside0.mk (show z0.heap[Y.heap.size]? = some (.cells #[.int .u8 0, .int .u8 0, .int .i64 0, .slice none 0 0] 27 (0, 0)) by rw [hz]; exact heap_alloc_new _ _)
              have HZN := Aside0.mk (show w7.heap.size ≤ Y.heap.size from HCY.out.low.size)
              have HGY := Aside0.mk (show g ≠ Y.heap.size by have := blk_lt HCY.out.cur; omega)
              have HNE := Aside0.mk (show b20 ≠ Y.heap.size by have := blk_lt H20.out; omega)
              have H20_ := Aside0.mk (blk_below H20.out HBZ.out)
              clear H20
              have H20 := H20_
              have HCY_ := Aside0.mk (HCY.out.below HBZ.out)
              have HRY_ := Aside0.mk (HRY.out.below HBZ.out).now
              clear HCY HRY
              have HCY := HCY_
              have HRY := HRY_
              have HSZ_ := Aside0.mk (HSX.out z0 HCY.out.low)
              refine hK.out _ _ (fun _ => HSZ_.out) (fun _ => ?_)
              clear hK K
              try simp only [Act.put, List.setIfInBounds_toArray, List.set_cons_zero, List.set_cons_succ]
              clear hz
              obtain ⟨bn, hbn⟩ : ∃ bn, bn = Y.heap.size := ⟨_, rfl⟩
              rw [← hbn] at HZB0 HZN HGY HNE
              rw [← hbn]
              clear hbn HS0 HBZ HBD
              refine wpAnyN_one (i := 11) rfl (by kernel_rfl) (fun K hK => ?_)
              have hcall := rtake_one HRY.out HTK.out (below_step HBW.out HCY.out.low) HC.out HLL.out HKK.out HSZ.out HFI.out ak aa HXK.out HXA.out HO.out
              rw [HTV.out, HON.out, HOB.out] at hcall
              go_simp
              refine hcall.mono ?_
              rintro e w5 ⟨hb5, rfl⟩
              have HB5 := Aside0.mk hb5
              have HC5 := Aside0.mk (HCY.out.below hb5)
              have HR5 := Aside0.mk (HRY.out.below hb5).now
              have H20' := Aside0.mk (blk_below H20.out hb5)
              have HZB := Aside0.mk (blk_below HZB0.out hb5)
              clear hcall hb5
              have HS5 := Aside0.mk (HSX.out w5 HC5.out.low)
              refine hK.out _ _ (fun _ => HS5.out) (fun _ => ?_)
              clear hK K
              try simp only [Act.put, List.setIfInBounds_toArray, List.set_cons_zero, List.set_cons_succ]
              refine wpAnyN_take (i := 12) (v := ?_) rfl (by kernel_rfl) (by kernel_rfl) (by kernel_rfl) (by kernel_rfl) (fun _ _ _ h => h) (.inl ⟨by rfl, ?_⟩) HS5.out ?_
              rotate_left
              · (intro W' hW'; obtain ⟨s0, s1⟩ := hW'; go_simp; try rfl)
              simp only [Act.put, List.setIfInBounds_toArray, List.set_cons_zero, List.set_cons_succ]
              refine wpAnyN_take (i := 13) (v := ?_) rfl (by kernel_rfl) (by kernel_rfl) (by kernel_rfl) (by kernel_rfl) (fun _ _ _ h => h) (.inl ⟨by rfl, ?_⟩) HS5.out ?_
              rotate_left
              · (intro W' hW'; obtain ⟨s0, s1⟩ := hW'; go_simp; try rfl)
              simp only [Act.put, List.setIfInBounds_toArray, List.set_cons_zero, List.set_cons_succ]
              refine wpAnyN_take (i := 14) (v := ?_) rfl (by kernel_rfl) (by kernel_rfl) (by kernel_rfl) (by kernel_rfl) (fun _ _ _ h => h) (.inl ⟨by rfl, ?_⟩) HS5.out ?_
              rotate_left
              · (intro W' hW'; obtain ⟨s0, s1⟩ := hW'; go_simp; try rfl)
              simp only [Act.put, List.setIfInBounds_toArray, List.set_cons_zero, List.set_cons_succ]
              refine wpAnyN_take (i := 15) (v := ?_) rfl (by kernel_rfl) (by kernel_rfl) (by kernel_rfl) (by kernel_rfl) (fun _ _ _ h => h) (.inl ⟨by rfl, ?_⟩) HS5.out ?_
              rotate_left
              · (intro W' hW'; obtain ⟨s0, s1⟩ := hW'; go_simp; try rfl)
              simp only [Act.put, List.setIfInBounds_toArray, List.set_cons_zero, List.set_cons_succ]
              obtain ⟨z, hz⟩ : ∃ z : World, z = w5 := ⟨_, rfl⟩
              have HCZ := HC5
              have HRZ := HR5
              have HZ20 := H20'
              rw [← hz] at HZB HCZ HRZ HZ20
              rw [← hz]
              clear hz
              clear HC5 HR5
              have r0 := blk_cell HZB.out 0
              have r1 := blk_cell HZB.out 1
              have r2 := blk_cell HZB.out 2
              have r3 := blk_cell HZB.out 3
              have f0 := blk_frozen HZB.out 0
              have f1 := blk_frozen HZB.out 1
              have f2 := blk_frozen HZB.out 2
              have f3 := blk_frozen HZB.out 3
              have lz := blk_lt HZB.out
              simp at r0 r1 r2 r3
              have HCE := Aside0.mk (HCZ.out.put4 HZB.out HZN.out (.int .u8 nk) (.int .u8 nw) (.int .i64 nd) (.slice nA nl.length nc))
              have HRE := Aside0.mk (HRZ.out.put4 HZB.out (.int .u8 nk) (.int .u8 nw) (.int .i64 nd) (.slice nA nl.length nc) (Kd.C_below HR.out (below_step HBW.out HCE.out.low)))
              have HSE := Aside0.mk (HSX.out _ HCE.out.low)
              refine wpAnyN_one (i := 17) rfl (by kernel_rfl) (fun K hK => ?_)
              go_simp
              refine hK.out _ _ (fun _ => HSE.out) (fun _ => ?_)
              clear hK K
              try simp only [Act.put, List.setIfInBounds_toArray, List.set_cons_zero, List.set_cons_succ]
              refine wpAnyN_take (i := 18) (v := ?_) rfl (by kernel_rfl) (by kernel_rfl) (by kernel_rfl) (by kernel_rfl) (fun _ _ _ h => h) (.inl ⟨by rfl, ?_⟩) HSE.out ?_
              rotate_left
              · (intro W' hW'; obtain ⟨s0, s1⟩ := hW'; go_simp; try rfl)
              simp only [Act.put, List.setIfInBounds_toArray, List.set_cons_zero, List.set_cons_succ]
              refine wpAnyN_take (i := 19) (v := ?_) rfl (by kernel_rfl) (by kernel_rfl) (by kernel_rfl) (by kernel_rfl) (fun _ _ _ h => h) (.inl ⟨by rfl, ?_⟩) HSE.out ?_
              rotate_left
              · (intro W' hW'; obtain ⟨s0, s1⟩ := hW'; go_simp; try rfl)
              simp only [Act.put, List.setIfInBounds_toArray, List.set_cons_zero, List.set_cons_succ]
              refine wpAnyN_done (by kernel_rfl) (NoPanic.normal ?_) _
              clear r0 r1 r2 r3 f0 f1 f2 f3 lz
              go_wp2_with fail
              go_meet
              exact ⟨bn, rfl, rfl, rfl, ⟨put4_at HZB.out _ _ _ _, (put4_other HNE.out _ _ _ _).trans HZ20.out, HCE.out, HRE.out⟩⟩
          case rest =>
            obtain ⟨wy, rfl⟩ : ∃ w_ : World, w_ = wc := ⟨_, rfl⟩
            obtain ⟨b23, rfl, rfl, rfl, HX2⟩ := hcut
            obtain ⟨h23, h20, hcn2, hrn2⟩ := HX2.out
            have p0 := blk_cell h20 0
            have p1 := blk_cell h20 1
            have p2 := blk_cell h20 2
            have p3 := blk_cell h20 3
            have q0 := blk_cell h23 0
            have q1 := blk_cell h23 1
            have q2 := blk_cell h23 2
            have q3 := blk_cell h23 3
            simp at p0 p1 p2 p3 q0 q1 q2 q3
            have HCX := Aside0.mk hcn2
            have HRX2 := Aside0.mk hrn2
            clear h23 h20 hcn2 hrn2 HX HX2
            obtain ⟨KN, hKN⟩ := same_refl (AT.node nk nw nd nA nc nl).erase (by have := HNO.out.2; have := HTS.out; omega)
            have HKN := Aside0.mk (hKN KN (Nat.le_refl _))
            simp only [AT.erase] at HKN
            clear hKN
            have hCk := C_of_AT _ _ (Nat.lt_succ_self _) W HNO.out.1
            simp only [AT.A, AT.kids] at hCk
            have hkc : nl.length ≤ nc := by have := HNO.out.1; simp only [AtT] at this; exact this.1
            have hel := eraseL_length nl
            have hCk2 : Kd.C k27 wy nA (eraseL nl).length (eraseL nl) := by rw [hel]; exact Kd.C_below hCk (below_step HBW.out HCX.out.low)
            have hcall := glossatorref15_Same.calls KN nk nw nd nA nc (eraseL nl) nk nw nd nA nc (eraseL nl) true wy hCk2 (by rw [hel]; exact hkc) hCk2 (by rw [hel]; exact hkc) HKN.out
            rw [hel] at hcall
            clear hCk hCk2 hkc hel
            cases ob with
            | false =>
              go_wp2_with (go_at_call 16; refine (hcall.mono ?_); rintro e w9 ⟨rfl, hb9⟩; have HB9 := Aside0.mk hb9; clear hb9 hcall p0 p1 p2 p3 q0 q1 q2 q3)
              go_roundg (q.length - (i + 1))
              case measure => have := HK.out; omega
              case rel => exact ⟨i + 1, tk, by go_num, rfl, by omega, htk0, by omega, ⟨rfl⟩, ⟨HCX.out.below HB9.out, (HRX2.out.below HB9.out).now⟩⟩
            | true =>
              go_wp2_with (go_at_call 16; refine (hcall.mono ?_); rintro e w9 ⟨rfl, hb9⟩; have HB9 := Aside0.mk hb9; clear hb9 hcall p0 p1 p2 p3 q0 q1 q2 q3)
              go_roundg (q.length - (i + 1))
              case measure => have := HK.out; omega
              case rel => exact ⟨i + 1, tk + 1, by go_num, by go_num, by omega, by omega, by omega, ⟨rfl⟩, ⟨HCX.out.below HB9.out, (HRX2.out.below HB9.out).now⟩⟩
      · have hie : i = q.length := by omega
        subst hie
        have hCi := Kd.C_below HCI.out HLP.out.1.low
        have hCr := Kd.C_below HR.out (below_step HBW.out HLP.out.1.low)
        have HCI2 := Aside0.mk hCi
        have HCR2 := Aside0.mk hCr
        clear hCi hCr
        go_wp2_with (first | (go_at_call 17; refine (taken_calls HLP.out.1).mono ?_; rintro e w8 ⟨rfl, hb8⟩; have HB8 := Aside0.mk hb8; clear hb8) | (go_at_call 18; refine (glossatorref12_Same.calls KS Ai ci l Al cl l true w8 (Kd.C_below HCI2.out HB8.out) HLI.out (Kd.C_below HCR2.out HB8.out) HC.out HKS.out).mono ?_; rintro e w10 ⟨rfl, hb10⟩; have HB10 := Aside0.mk hb10; clear hb10))
        go_ret
        exact ⟨rfl, below_step (below_step (below_step HBW.out HLP.out.1.low) HB8.out) HB10.out.below⟩
  · have HZ := Aside0.mk hz
    go_upto_region 3 with (go_at_call 12; refine (HCN.out w7 HBW.out Ai ci HCI.out HLI.out).mono ?_; rintro e w3 ⟨er, her, hb3, h3⟩; rcases h3 with ⟨hne, rfl⟩ | ⟨h00, _⟩; rotate_left; (exact absurd (her.symm.trans h00) HZ.out); have HB3 := Aside0.mk hb3; have HER := Aside0.mk her; have hne1 := hne; clear hb3 her hne p0 p1 p2 p3)
    have hbx := blk_below HBOX.out (below_step HB7.out HB3.out)
    have p0 := blk_cell hbx 0
    have p1 := blk_cell hbx 1
    have p2 := blk_cell hbx 2
    have p3 := blk_cell hbx 3
    simp at p0 p1 p2 p3
    clear hbx
    go_upto_region 4 with (go_at_call 13; refine (HRNW.out w3 (below_step HBW.out HB3.out)).mono ?_; rintro e w4 ⟨er2, her2, hb4, h4⟩; rcases h4 with ⟨hne, rfl⟩ | ⟨h00, _⟩; rotate_left; (exact absurd (her2.symm.trans h00) HZ.out); have HB4 := Aside0.mk hb4; have HER2 := Aside0.mk her2; clear hb4 her2 hne p0 p1 p2 p3)
    obtain rfl : er2 = er := HER2.out.trans HER.out.symm
    have d0 : (er2 == 0) = false := by simp [hne1]
    have d1 : (er2 == er2) = true := by simp
    have d2 : (er2 != 0) = true := by simp [hne1]
    go_wp2
    go_ret
    exact ⟨rfl, below_step (below_step HBW.out HB3.out) HB4.out⟩
end Go.Proofs.Ytghbfjmmjfklfaa.H
