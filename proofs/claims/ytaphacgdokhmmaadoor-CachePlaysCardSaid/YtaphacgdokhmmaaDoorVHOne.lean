/- `one`: an act upon a cache and the document's cache. -/
import Derived.Test.YtaphacgdokhmmaaDoorVHPlay
set_option linter.unusedVariables false
set_option linter.unusedSimpArgs false
namespace Go.Proofs.YtaphacgdokhmmaaDoor.H
open Go.RowKit Go.Shelf Go.Proofs.YtaphacgdokhmmaaDoorW.PrintWords Go.Proofs.YtaphacgdokhmmaaDoorW.PrintLast Go.Proofs.YtaphacgdokhmmaaDoorW.PrintMore
theorem chg_keep {W0 W W' : World} {Fp Fp' : Nat → Prop} (hk : Keep Fp W Fp' W') (h1 : Below W0.heap.size W0 W) (h2 : Below W0.heap.size W0 W') (hs : W.heap.size ≤ W'.heap.size) : Chg Fp W W' :=
  ⟨h2.os.trans h1.os.symm, h2.tape.trans h1.tape.symm, h2.output.trans h1.output.symm, hs, fun q hq hf => (hk q ⟨hf, hq⟩).2⟩
set_option maxHeartbeats 8000000 in
set_option maxRecDepth 100000 in
theorem one_calls {W0 W : World} {Fp Fr : Nat → Prop} {b1 n b2 c : Nat} {M : ByteArray → List Res} {A : Option Addr} {L : List PutR} (h : PR W0 W Fp Fr b1 n M b2 A c L) (htab : Tab W0) (k : Int) (uri id : ByteArray) (Ad : Option Addr) (cd : Nat) (l : List Int) (hu : uri.size ≤ maxLen) (hC : Kd.C (Kd.int .i64) W0 Ad l.length l) (hlc : l.length ≤ cd) (hl : l.length ≤ 20000) (hn : n ≤ 1000) :
    Calls Tryd.prog 9 #[.pointer (some ⟨b1, 0, none⟩), .pointer (some ⟨b2, 0, none⟩), .agg #[.int .i64 k, .string uri, .string id, .slice Ad l.length cd]] W fun e W' => e = .returned (.bool true) ∧ ∃ Fp' Fr' n' M' A' c' L', PR W0 W' Fp' Fr' b1 n' M' b2 A' c' L' ∧ n' ≤ n + 1 ∧ Chg (Both Fp Fr) W W' ∧ (∀ q, Both Fp' Fr' q → Both Fp Fr q ∨ W.heap.size ≤ q) := by
  have HT := Aside0.mk htab
  have HU := Aside0.mk hu
  have HC := Aside0.mk hC
  have HLC := Aside0.mk hlc
  have HLL := Aside0.mk hl
  have HN := Aside0.mk hn
  have HP := Aside0.mk h
  clear h htab hu hC hlc hl hn
  go_enter Tryd.func9, Tryd.ntmps9
  go_upto_region 1 with (fail)
  obtain ⟨X, hX⟩ : ∃ X, X = W.alloc (.cells #[.int .i64 k, .string uri, .string id, .slice Ad l.length cd] 36) := ⟨_, rfl⟩
  have HBX := Aside0.mk (show Below W.heap.size W X by rw [hX]; exact below_alloc (Below.refl _ _) _)
  have HAC := Aside0.mk (show X.heap[W.heap.size]? = some (.cells #[.int .i64 k, .string uri, .string id, .slice Ad l.length cd] 36 (0, 0)) by rw [hX]; exact heap_alloc_new _ _)
  change Code.wp Tryd.prog _ _ _ (W.alloc (.cells #[.int .i64 k, .string uri, .string id, .slice Ad l.length cd] 36))
  rw [← hX]
  clear hX
  have HPX := Aside0.mk (HP.out.below HBX.out)
  have HSX := Aside0.mk (blk_lt HAC.out)
  have HOA := Aside0.mk (show Out Fp X W.heap.size from ⟨fun e => by have := HP.out.cw.lt _ e; omega, HSX.out⟩)
  have hcell : ∀ w : World, w.heap[W.heap.size]? = some (.cells #[.int .i64 k, .string uri, .string id, .slice Ad l.length cd] 36 (0, 0)) → w.cell? ⟨W.heap.size, 0, none⟩ = some (.int .i64 k) ∧ w.cell? ⟨W.heap.size, 1, none⟩ = some (.string uri) ∧ w.cell? ⟨W.heap.size, 2, none⟩ = some (.string id) ∧ w.cell? ⟨W.heap.size, 3, none⟩ = some (.slice Ad l.length cd) := fun w hw => by
    have p0 := blk_cell hw 0
    have p1 := blk_cell hw 1
    have p2 := blk_cell hw 2
    have p3 := blk_cell hw 3
    simp at p0 p1 p2 p3
    exact ⟨p0, p1, p2, p3⟩
  have HCELL := Aside0.mk hcell
  obtain ⟨p0, p1, p2, p3⟩ := hcell X HAC.out
  clear hcell
  by_cases hk0 : k = 0
  · have d0 : (k == 0) = true := by simp [hk0]
    clear hk0
    have HCX := Aside0.mk (Kd.C_below HC.out HPX.out.cw.bel)
    obtain ⟨KS, hKS⟩ := same_self l (by have := HLL.out; omega)
    have HKS := Aside0.mk hKS
    clear hKS
    go_upto_region 4 with (first | ((with_reducible refine gate_dst (N := 20) rfl ?_); refine Kd.R_lit (Kd.int .i64) X.heap.size 3 ?hg (N := 20) ?hd (xs := ([] : List Int)) (inner := []) (ok := fun k => X.heap.size ≤ k) (okp := fun _ => False) ?hr ?hp (fun _ hk => hk.elim) (Nat.le_refl _) (Below.refl _ _) (Nat.le_refl _) (by simp) ?_; (case hd => rfl); (case hg => rfl); (case hr => first | (go_simp; done) | (go_simp; rfl)); (case hp => exact (Reps.none _ _)); intro v5 w5 ho5 hb5 hg_ hnew_; have HO5 := Aside0.mk ho5; have HB5 := Aside0.mk hb5; obtain ⟨q0, q1, q2, q3⟩ := HCELL.out w5 ((hb5.block _ HSX.out).trans HAC.out); clear hg_ hnew_ ho5 hb5 p0 p1 p2 p3) | ((with_reducible refine gate_builtin (b := .append) (xs := #[.tmp 20, .tmp 22]) rfl ?_); at_builtin; refine Kd.R_append_rows (Kd.int .i64) (w0 := X) X.heap.size rfl (.tmp 20) (.tmp 22) 34 3 (.int .i64 0) 8 rfl Tryd.underlying34 info3 rfl (by decide) (by omega) v5 [] l _ _ _ (fun k => X.heap.size ≤ k) (fun _ => False) rfl rfl ?aO ?aR (fun _ _ h => h) (fun _ h => h.elim) ?aF ?aB ?aS ?aL ?_; (case aR => exact (Kd.C_below HCX.out HB5.out)); (case aB => exact HB5.out); (case aF => exact (fun k hk => Nat.le_trans HB5.out.size hk)); (case aO => exact HO5.out); (case aS => exact HB5.out.size); (case aL => have := HLL.out; simp only [List.length_nil]; omega); intro v7 w7 ho7 hb7 hg hat; rw [List.nil_append] at ho7; obtain ⟨Am, cm, rfl, hcm, _⟩ := Kd.R_reads ho7; have HO7 := Aside0.mk ho7; have HB7 := Aside0.mk hb7; have HCM := Aside0.mk hcm; obtain ⟨q0, q1, q2, q3⟩ := HCELL.out w7 ((hb7.block _ HSX.out).trans HAC.out); clear ho7 hb7 hg hat hcm))
    go_upto_region 5 with (go_at_call 12; refine (put_cw (HPX.out.cw.below HB7.out) HT.out uri HU.out Am cm l HCM.out (HPX.out.cw.new HB7.out HO7.out) (by have := HLL.out; omega) (by have := HN.out; omega)).mono ?_; rintro e w8 ⟨rfl, Fp', hcw_, hkp_, hsz_⟩; have C8 := Aside0.mk hcw_; have K8 := Aside0.mk hkp_; have S8 := Aside0.mk hsz_; have HF8 := Aside0.mk (F_keep (HPX.out.cw.new HB7.out HO7.out) hkp_); have HA8 := Aside0.mk (((hkp_ _ ⟨HOA.out.1, Nat.lt_of_lt_of_le HSX.out HB7.out.size⟩).2.trans (HB7.out.block _ HSX.out)).trans HAC.out); obtain ⟨q0, q1, q2, q3⟩ := HCELL.out w8 HA8.out; clear hcw_ hkp_ hsz_)
    obtain ⟨id5, hid5⟩ : ∃ id5, id5 = dec ((n : Int) + 1) := ⟨_, rfl⟩
    have HID5 := Aside0.mk (show id5 = dec ((L.length : Int) + 1) by rw [hid5, HPX.out.nl])
    rw [← hid5] at C8
    rw [← hid5]
    clear hid5
    obtain ⟨M5, hM5⟩ : ∃ M5, M5 = putM M uri (id5, l) := ⟨_, rfl⟩
    have HSAY := Aside0.mk (show Says M5 (L ++ [(uri, id5, l, false)]) by rw [hM5]; exact says_put HPX.out.says uri id5 l)
    rw [← hM5] at C8
    clear hM5
    have HRP := Aside0.mk (fun (w : World) (hr : RC Fr w b2 A c L) (hlt : ∀ q, Fr q → q < w.heap.size) (hC : Kd.C (Kd.int .i64) w Ad l.length l) => rput_calls Fr b2 c A L w hr hlt uri Ad cd l hC (show l.length ≤ 60000 by have := HLL.out; omega) (show L.length ≤ 100000 by have := HP.out.nl; have := HN.out; omega))
    rw [← HID5.out] at HRP
    go_wp2_with (go_at_call 16; refine (glossatorref25_Same.calls KS Am cm l Ad cd l true w8 (Kd.F_now HF8.out) HCM.out (Kd.C_below HC.out C8.out.bel) HLC.out HKS.out).mono ?_; rintro e w9 ⟨rfl, hd_⟩; have HB9 := Aside0.mk hd_.below; clear hd_ q0 q1 q2 q3)
    have HR9 := Aside0.mk (show Kd.R (Kd.int .i64) 3 w9 X.heap.size (fun q => X.heap.size ≤ q ∧ q < w7.heap.size) (.slice Am l.length cm) l from
      Kd.R_below (Kd.R_step (Kd.R_mono (Kd.R_bound HO7.out) (fun q hq => ⟨hq.1, hq.2.2.1⟩)) (fun q hq hl => (K8.out q ⟨fun e => by have := HPX.out.cw.lt q e; omega, hl⟩).2)) HB9.out)
    go_loopg [10] l.length (fun kq v10 w' => ∃ (i : Nat) (l' : List Int), v10 = .int .i64 i ∧ i ≤ l.length ∧ Aside0 (kq = l.length - i) ∧ Aside0 (Kd.R (Kd.int .i64) 3 w' X.heap.size (fun q => X.heap.size ≤ q ∧ q < w7.heap.size) (.slice Am l.length cm) l') ∧ Aside0 (Chg (fun q => X.heap.size ≤ q ∧ q < w7.heap.size) w9 w'))
    case atStart => exact ⟨0, l, rfl, Nat.zero_le _, ⟨rfl⟩, HR9, ⟨Chg.refl_ _ _⟩⟩
    case round =>
      obtain ⟨i, l', rfl, hi, HK, HRR, HBB⟩ := hrel
      have hbn := HLL.out
      by_cases hlt : i < l.length
      · have hln := (Kd.R_reads' HRR.out).1
        obtain ⟨g, cap, hv, hgl1, hgl2, _⟩ := Kd.R_form HRR.out (by omega)
        injection hv with hv1 hv2 hv3
        have hgok := HRR.out.1 g (by rw [hv1]; rfl)
        subst hv1
        have hcf := Kd.R_celln 0 HRR.out (i : Int) (by omega) (by omega)
        simp only [Int.toNat_natCast] at hcf
        obtain ⟨hcc, hff⟩ := hcf
        have hput := Kd.R_putn HRR.out (i : Int) (-5)
        simp only [Int.toNat_natCast] at hput
        have HPUT := Aside0.mk hput
        have HGOK := Aside0.mk hgok
        clear hv2 hv3 hln hput hgok hgl1
        go_wp2
        go_roundg (l.length - (i + 1))
        case measure => have := HK.out; omega
        case rel => exact ⟨i + 1, _, by go_num, by omega, ⟨rfl⟩, HPUT, ⟨HBB.out.trans_ (chg_set HGOK.out)⟩⟩
      · have hie : i = l.length := by omega
        subst hie
        obtain ⟨hrc, hcw, hst, hrp, hsz, hnp⟩ := pair_mid HPX.out HB7.out C8.out K8.out S8.out HB9.out HBB.out
        obtain ⟨q0, q1, q2, q3⟩ := HCELL.out wr ((hst _ HOA.out).trans HAC.out)
        have HRC := Aside0.mk hrc
        have HCW := Aside0.mk hcw
        have HST := Aside0.mk hst
        have HRPP := Aside0.mk hrp
        have HSZ := Aside0.mk hsz
        have HNP := Aside0.mk hnp
        have HLT := Aside0.mk (show ∀ q, Fr q → q < wr.heap.size from fun q hq => Nat.lt_of_lt_of_le (HPX.out.lt q hq) hsz)
        clear hrc hcw hst hrp hsz hnp
        go_wp2_with (go_at_call 17; refine (HRP.out wr HRC.out HLT.out (Kd.C_below HC.out HCW.out.bel)).mono ?_; rintro e w11 ⟨rfl, A', c', hr_, hc_⟩; have HR11 := Aside0.mk hr_; have HC11 := Aside0.mk hc_; clear hr_ hc_ q0 q1 q2 q3)
        go_ret
        obtain ⟨f1, f2, f3⟩ := pair_end HPX.out HBX.out HCW.out HST.out HRPP.out HSZ.out HNP.out HR11.out HC11.out HSAY.out (by rw [List.length_append, List.length_singleton, HPX.out.nl])
        exact ⟨rfl, Fp', _, n + 1, M5, A', c', L ++ [(uri, id5, l, false)], f1, Nat.le_refl _, f2, f3⟩
  have d0 : (k == 0) = false := by simp [hk0]
  by_cases hk1 : k = 1
  · have d1 : (k == 1) = true := by simp [hk1]
    clear hk0 hk1
    obtain ⟨gl, hgl⟩ : ∃ gl, gl = (fnd (keptRes L uri) id).elim [] (·.2) := ⟨_, rfl⟩
    obtain ⟨gb, hgb⟩ : ∃ gb, gb = (fnd (keptRes L uri) id).isSome := ⟨_, rfl⟩
    have HGN := Aside0.mk (show gl.length ≤ 60000 by
      rw [hgl, ← HPX.out.mu uri]
      obtain ⟨_, _, _, _, _, hx⟩ := HPX.out.cw.ci
      cases hf : fnd (M uri) id with
      | none => simp
      | some x => exact hx.dat uri x (List.mem_of_find?_eq_some hf))
    have HGET := Aside0.mk (fun (w : World) (hc : CW W0 w Fp b1 n M) => get_cw hc uri id HU.out)
    rw [HPX.out.mu uri, ← hgl, ← hgb] at HGET
    have HRG := Aside0.mk (fun (w : World) (hb : Below X.heap.size X w) => rget_calls Fr b2 c A L X w HPX.out.rc hb uri id (show L.length ≤ 100000 by have := HP.out.nl; have := HN.out; omega))
    rw [← hgl, ← hgb] at HRG
    clear hgl hgb
    obtain ⟨KS, hKS⟩ := same_self gl (by have := HGN.out; omega)
    have HKS := Aside0.mk hKS
    clear hKS
    go_upto_region 14 with (first | (go_at_call 11; refine (HGET.out X HPX.out.cw).mono ?_; rintro e w5 ⟨Ag, cg, rfl, hc_, hF_, hR_, hcw_, hb_⟩; have HCg := Aside0.mk hc_; have HR5 := Aside0.mk hR_; have HB5 := Aside0.mk hb_; obtain ⟨q0, q1, q2, q3⟩ := HCELL.out w5 ((hb_.block _ HSX.out).trans HAC.out); clear hc_ hF_ hR_ hcw_ hb_ p0 p1 p2 p3) | (go_at_call 18; refine (HRG.out w5 HB5.out).mono ?_; rintro e w6 ⟨Am, cm, rfl, hc_, hC_, hb_⟩; have HCm := Aside0.mk hc_; have HMm := Aside0.mk hC_; have HB6 := Aside0.mk (HB5.out.trans (hb_.mono HB5.out.size)); have HR6 := Aside0.mk (Kd.R_below HR5.out hb_); clear hc_ hC_ hb_ q0 q1 q2 q3 HR5))
    go_wp2_with (go_at_call 16; refine (glossatorref25_Same.calls KS Ag cg gl Am cm gl true w6 (Kd.R_reads' HR6.out).2.2 HCg.out (Kd.C_below HMm.out HB6.out) HCm.out HKS.out).mono ?_; rintro e w7 ⟨rfl, hd_⟩; have HB7 := Aside0.mk (HB6.out.trans (hd_.below.mono HB6.out.size)); have HR7 := Aside0.mk (Kd.R_below HR6.out hd_.below); clear hd_ HR6)
    go_loopg [15] gl.length (fun kq v15 w' => ∃ (i : Nat) (l' : List Int), v15 = .int .i64 i ∧ i ≤ gl.length ∧ Aside0 (kq = gl.length - i) ∧ Aside0 (Kd.R (Kd.int .i64) 3 w' X.heap.size (fun q => X.heap.size ≤ q) (.slice Ag gl.length cg) l') ∧ Aside0 (Below X.heap.size X w'))
    case atStart => exact ⟨0, gl, rfl, Nat.zero_le _, ⟨rfl⟩, ⟨HR7.out⟩, ⟨HB7.out⟩⟩
    case round =>
      obtain ⟨i, l', rfl, hi, HK, HRR, HBB⟩ := hrel
      have hbn := HGN.out
      by_cases hlt : i < gl.length
      · have hln := (Kd.R_reads' HRR.out).1
        obtain ⟨g, cap, hv, hgl1, hgl2, _⟩ := Kd.R_form HRR.out (by omega)
        injection hv with hv1 hv2 hv3
        have hgok := HRR.out.1 g (by rw [hv1]; rfl)
        subst hv1
        have hcf := Kd.R_celln 0 HRR.out (i : Int) (by omega) (by omega)
        simp only [Int.toNat_natCast] at hcf
        obtain ⟨hcc, hff⟩ := hcf
        have hput := Kd.R_putn HRR.out (i : Int) (-5)
        simp only [Int.toNat_natCast] at hput
        have HPUT := Aside0.mk hput
        have HGOK := Aside0.mk hgok
        clear hv2 hv3 hln hput hgok hgl1
        go_wp2
        go_roundg (gl.length - (i + 1))
        case measure => have := HK.out; omega
        case rel => exact ⟨i + 1, _, by go_num, by omega, ⟨rfl⟩, HPUT, ⟨HBB.out.trans ((Below.refl _ _).setCell HGOK.out _)⟩⟩
      · have hie : i = gl.length := by omega
        subst hie
        have C8 := Aside0.mk (HPX.out.cw.below HBB.out)
        obtain ⟨q0, q1, q2, q3⟩ := HCELL.out wr ((HBB.out.block _ HSX.out).trans HAC.out)
        go_wp2_with (first | (go_at_call 11; refine (HGET.out wr C8.out).mono ?_; rintro e w9 ⟨A9, c9, rfl, hc_, hF_, hR_, hcw_, hb_⟩; have HC9 := Aside0.mk hc_; have HM9 := Aside0.mk (Kd.R_reads' hR_).2.2; have HB9 := Aside0.mk (HBB.out.trans (hb_.mono HBB.out.size)); clear hc_ hF_ hR_ hcw_ hb_ q0 q1 q2 q3) | (go_at_call 16; refine (glossatorref25_Same.calls KS A9 c9 gl Am cm gl true w9 HM9.out HC9.out (Kd.C_below HMm.out HB9.out) HCm.out HKS.out).mono ?_; rintro e w10 ⟨rfl, hd_⟩; have HB10 := Aside0.mk (HB9.out.trans (hd_.below.mono HB9.out.size)); clear hd_))
        go_ret
        exact ⟨rfl, Fp, Fr, n, M, A, c, L, HPX.out.below HB10.out, by omega, chg_of_below (HBX.out.trans (HB10.out.mono HBX.out.size)), fun q hq => .inl hq⟩
  have d1 : (k == 1) = false := by simp [hk1]
  by_cases hk2 : k = 2
  · have d2 : (k == 2) = true := by simp [hk2]
    clear hk0 hk1 hk2
    go_upto_region 24 with (go_at_call 10; refine (drop_cw HPX.out.cw uri HU.out).mono ?_; rintro e w5 ⟨rfl, hcw, hkp, hsz⟩; have HC5 := Aside0.mk hcw; have HK5 := Aside0.mk hkp; have HS5 := Aside0.mk hsz; clear hcw hkp hsz)
    clear p0 p1 p2 p3
    have HA5 := Aside0.mk ((HK5.out _ HOA.out).2.trans HAC.out)
    obtain ⟨p0, p1, p2, p3⟩ := HCELL.out w5 HA5.out
    have HR5 := Aside0.mk (HPX.out.rc.keep (W' := w5) (fun q hq hl => (HK5.out q ⟨fun e => HPX.out.ap q e hq, hl⟩).2))
    have HLN := Aside0.mk (show L.length ≤ 100000 by have := HP.out.nl; have := HN.out; omega)
    go_wp2_with (go_at_call 19; refine (rdrop_calls Fr b2 c A L w5 HR5.out uri HLN.out).mono ?_; rintro e w6 ⟨rfl, hr6, hc6⟩; have HR6 := Aside0.mk hr6; have HC6 := Aside0.mk hc6; clear hr6 hc6)
    go_ret
    have hch5 := chg_keep HK5.out HPX.out.cw.bel HC5.out.bel HS5.out
    have hch : Chg (Both Fp Fr) X w6 := (hch5.wide (fun q hq => .inl hq)).trans_ (HC6.out.wide (fun q hq => .inr hq))
    refine ⟨rfl, Fp, Fr, n, dropM M uri, A, c, L.map (dropR uri), ⟨⟨HC5.out.ci.keep (fun q hq hl => HC6.out.block q hl (HPX.out.ap q hq)), fun q hq => Nat.lt_of_lt_of_le (HC5.out.lt q hq) HC6.out.size, HPX.out.cw.lo, HPX.out.chg hch⟩, HR6.out, fun q hq => Nat.lt_of_lt_of_le (HPX.out.lt q hq) hch.size, HPX.out.lo, HPX.out.ap, by rw [List.length_map]; exact HPX.out.nl, says_drop HPX.out.says uri⟩, by omega, (chg_of_below HBX.out).trans_ hch, fun q hq => .inl hq⟩
  have d2 : (k == 2) = false := by simp [hk2]
  by_cases hk3 : k = 3
  · have d3 : (k == 3) = true := by simp [hk3]
    clear hk0 hk1 hk2 hk3
    obtain ⟨km, hkm⟩ : ∃ km, km = (keptRes L uri).map (·.1) := ⟨_, rfl⟩
    have HMK := Aside0.mk (show (M uri).map (·.1) = km by rw [HPX.out.mu uri, hkm])
    have HRK := Aside0.mk (fun w hr => rKept_calls Fr b2 c A L w hr uri (show L.length ≤ 100000 by have := HP.out.nl; have := HN.out; omega))
    have HK4 := Aside0.mk (show km.length ≤ 4 by rw [← HMK.out, List.length_map]; obtain ⟨_, _, _, _, _, hx⟩ := HPX.out.cw.ci; exact hx.four uri)
    rw [← hkm] at HRK
    clear hkm
    obtain ⟨KT, hKT⟩ := sameT_self km (by have := HK4.out; omega)
    have HKT := Aside0.mk hKT
    clear hKT
    go_upto_region 26 with (fail)
    clear p0 p2 p3 d0 d1 d2 d3
    refine wp_region_noPanic (plain_need [0, 1, 2, 3, 4, 5, 6, 7, 8] (fun W' => W'.cell? ⟨W.heap.size, 1, none⟩ = some (.string uri)) (by kernel_rfl) ?_)
    obtain ⟨Xd, hXd⟩ : ∃ Xd, Xd = X.drew := ⟨_, rfl⟩
    rw [← hXd]
    have HBD := Aside0.mk (show Below X.heap.size X Xd by rw [hXd]; exact (Below.refl _ _).drew)
    have HS0 := Aside0.mk (show Xd.cell? ⟨W.heap.size, 1, none⟩ = some (.string uri) by rw [hXd]; exact p1)
    clear hXd p1
    refine wpAnyN_take (i := 0) (v := ?_) rfl (by kernel_rfl) (by kernel_rfl) (by kernel_rfl) (by kernel_rfl) (fun _ _ _ h => h) (.inl ⟨by rfl, ?_⟩) HS0.out ?_
    rotate_left
    · (intro W' hW'; have s0 := hW'; go_simp; try rfl)
    simp only [Act.put, List.setIfInBounds_toArray, List.set_cons_zero, List.set_cons_succ]
    refine wpAnyN_take (i := 1) (v := ?_) rfl (by kernel_rfl) (by kernel_rfl) (by kernel_rfl) (by kernel_rfl) (fun _ _ _ h => h) (.inl ⟨by rfl, ?_⟩) HS0.out ?_
    rotate_left
    · (intro W' hW'; have s0 := hW'; go_simp; try rfl)
    simp only [Act.put, List.setIfInBounds_toArray, List.set_cons_zero, List.set_cons_succ]
    refine wpAnyN_take (i := 2) (v := ?_) rfl (by kernel_rfl) (by kernel_rfl) (by kernel_rfl) (by kernel_rfl) (fun _ _ _ h => h) (.inl ⟨by rfl, ?_⟩) HS0.out ?_
    rotate_left
    · (intro W' hW'; have s0 := hW'; go_simp; try rfl)
    simp only [Act.put, List.setIfInBounds_toArray, List.set_cons_zero, List.set_cons_succ]
    refine wpAnyN_take (i := 4) (v := ?_) rfl (by kernel_rfl) (by kernel_rfl) (by kernel_rfl) (by kernel_rfl) (fun _ _ _ h => h) (.inl ⟨by rfl, ?_⟩) HS0.out ?_
    rotate_left
    · (intro W' hW'; have s0 := hW'; go_simp; try rfl)
    simp only [Act.put, List.setIfInBounds_toArray, List.set_cons_zero, List.set_cons_succ]
    refine wpAnyN_take (i := 5) (v := ?_) rfl (by kernel_rfl) (by kernel_rfl) (by kernel_rfl) (by kernel_rfl) (fun _ _ _ h => h) (.inl ⟨by rfl, ?_⟩) HS0.out ?_
    rotate_left
    · (intro W' hW'; have s0 := hW'; go_simp; try rfl)
    simp only [Act.put, List.setIfInBounds_toArray, List.set_cons_zero, List.set_cons_succ]
    refine wpAnyN_take (i := 6) (v := ?_) rfl (by kernel_rfl) (by kernel_rfl) (by kernel_rfl) (by kernel_rfl) (fun _ _ _ h => h) (.inl ⟨by rfl, ?_⟩) HS0.out ?_
    rotate_left
    · (intro W' hW'; have s0 := hW'; go_simp; try rfl)
    simp only [Act.put, List.setIfInBounds_toArray, List.set_cons_zero, List.set_cons_succ]
    refine wpAnyN_one (i := 3) rfl (by kernel_rfl) (fun K hK => ?_)
    go_simp
    refine (kept_cw (HPX.out.cw.below HBD.out) uri HU.out).mono ?_
    rintro e w8 ⟨Ak, ck, he_, hc_, hF_, hcw_, hb_⟩
    rw [HMK.out] at he_ hc_ hF_
    subst he_
    have HFk := Aside0.mk hF_
    have HCk := Aside0.mk hc_
    have HB8 := Aside0.mk (HBD.out.trans (hb_.mono HBD.out.size))
    clear hc_ hF_ hcw_ hb_
    have HS1 := Aside0.mk (show w8.cell? ⟨W.heap.size, 1, none⟩ = some (.string uri) from (HCELL.out w8 ((HB8.out.block _ HSX.out).trans HAC.out)).2.1)
    refine hK.out _ _ (fun _ => HS1.out) (fun _ => ?_)
    clear hK K
    try simp only [Act.put, List.setIfInBounds_toArray, List.set_cons_zero, List.set_cons_succ]
    refine wpAnyN_one (i := 7) rfl (by kernel_rfl) (fun K hK => ?_)
    go_simp
    refine (HRK.out w8 (HPX.out.rc.below HB8.out)).mono ?_
    rintro e w9 ⟨v9, rfl, hR9, hb9⟩
    obtain ⟨A9, c9, rfl, hc9, hC9⟩ := Kd.R_reads hR9
    have HC9 := Aside0.mk hC9
    have HL9 := Aside0.mk hc9
    have HB89 := Aside0.mk hb9
    have HB9 := Aside0.mk (HB8.out.trans (hb9.mono HB8.out.size))
    clear hR9 hb9 hC9 hc9
    have HS2 := Aside0.mk (show w9.cell? ⟨W.heap.size, 1, none⟩ = some (.string uri) from (HCELL.out w9 ((HB9.out.block _ HSX.out).trans HAC.out)).2.1)
    refine hK.out _ _ (fun _ => HS2.out) (fun _ => ?_)
    clear hK K
    try simp only [Act.put, List.setIfInBounds_toArray, List.set_cons_zero, List.set_cons_succ]
    refine wpAnyN_one (i := 8) rfl (by kernel_rfl) (fun K hK => ?_)
    go_simp
    refine (glossatorref25_SameTexts.calls KT Ak ck km A9 c9 km true w9 (Kd.C_below (Kd.F_now HFk.out) HB89.out) HCk.out HC9.out HL9.out HKT.out).mono ?_
    rintro e w10 ⟨rfl, hd_⟩
    have HB10 := Aside0.mk (HB9.out.trans (hd_.below.mono HB9.out.size))
    clear hd_
    have HS3 := Aside0.mk (show w10.cell? ⟨W.heap.size, 1, none⟩ = some (.string uri) from (HCELL.out w10 ((HB10.out.block _ HSX.out).trans HAC.out)).2.1)
    refine hK.out _ _ (fun _ => HS3.out) (fun _ => ?_)
    clear hK K
    try simp only [Act.put, List.setIfInBounds_toArray, List.set_cons_zero, List.set_cons_succ]
    refine wpAnyN_one (i := 9) rfl (by kernel_rfl) (fun K hK => ?_)
    go_simp
    refine hK.out _ _ (fun h => Bool.noConfusion (show false = true from h)) (fun _ => ?_)
    clear hK K
    try simp only [Act.put, List.setIfInBounds_toArray, List.set_cons_zero, List.set_cons_succ]
    refine wpAnyN_done (by kernel_rfl) (NoPanic.normal ?_) _
    go_wp2_with fail
    go_ret
    exact ⟨rfl, Fp, Fr, n, M, A, c, L, HPX.out.below HB10.out, by omega, chg_of_below (HBX.out.trans (HB10.out.mono HBX.out.size)), fun q hq => .inl hq⟩
  have d3 : (k == 3) = false := by simp [hk3]
  clear hk0 hk1 hk2 hk3
  go_wp2
  go_ret
  exact ⟨rfl, Fp, Fr, n, M, A, c, L, HPX.out, by omega, chg_of_below HBX.out, fun q hq => .inl hq⟩
end Go.Proofs.YtaphacgdokhmmaaDoor.H
