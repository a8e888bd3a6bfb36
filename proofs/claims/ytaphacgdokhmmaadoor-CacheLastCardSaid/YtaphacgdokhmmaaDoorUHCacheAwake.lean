/- awake answers true. -/
import Derived.Test.YtaphacgdokhmmaaDoorUHCacheLaw
set_option linter.unusedVariables false
set_option linter.unusedSimpArgs false
namespace Go.Proofs.YtaphacgdokhmmaaDoor.H
open Go.RowKit Go.Shelf Go.Proofs.YtaphacgdokhmmaaDoorW.PrintWords Go.Proofs.YtaphacgdokhmmaaDoorW.PrintLast Go.Proofs.YtaphacgdokhmmaaDoorW.PrintMore
def awM0 : ByteArray → List Res := fun _ => []
def awM1 : ByteArray → List Res := putM awM0 ⟨#[117]⟩ (dec 1, [1, 2])
def awM2 : ByteArray → List Res := putM awM1 ⟨#[118]⟩ (dec 2, [3])
def awM3 : ByteArray → List Res := putM awM2 ⟨#[117]⟩ (dec 3, [])
def awM4 : ByteArray → List Res := putM awM3 ⟨#[117]⟩ (dec 4, [])
def awM5 : ByteArray → List Res := putM awM4 ⟨#[117]⟩ (dec 5, [])
def awM6 : ByteArray → List Res := putM awM5 ⟨#[117]⟩ (dec 6, [])
theorem dec_1 : dec (((0 : Nat) : Int) + 1) = ⟨#[49]⟩ := by decide +kernel
theorem dec_2 : dec (((1 : Nat) : Int) + 1) = ⟨#[50]⟩ := by decide +kernel
theorem dec_3 : dec (((2 : Nat) : Int) + 1) = ⟨#[51]⟩ := by decide +kernel
theorem dec_4 : dec (((3 : Nat) : Int) + 1) = ⟨#[52]⟩ := by decide +kernel
theorem dec_5 : dec (((4 : Nat) : Int) + 1) = ⟨#[53]⟩ := by decide +kernel
theorem dec_6 : dec (((5 : Nat) : Int) + 1) = ⟨#[54]⟩ := by decide +kernel
theorem aw_a : fnd (awM3 ⟨#[117]⟩) ⟨#[49]⟩ = some (⟨#[49]⟩, [1, 2]) := by decide +kernel
theorem aw_b : fnd (awM3 ⟨#[117]⟩) ⟨#[50]⟩ = none := by decide +kernel
theorem aw_c : fnd (awM3 ⟨#[117]⟩) ⟨#[51]⟩ = some (⟨#[51]⟩, []) := by decide +kernel
theorem aw_d : fnd (awM6 ⟨#[117]⟩) ⟨#[49]⟩ = none := by decide +kernel
theorem aw_e : (awM6 ⟨#[117]⟩).map (·.1) = [⟨#[51]⟩, ⟨#[52]⟩, ⟨#[53]⟩, ⟨#[54]⟩] := by decide +kernel
theorem small (x : UInt8) : (⟨#[x]⟩ : ByteArray).size ≤ maxLen := by show 1 ≤ maxLen; decide
set_option maxHeartbeats 8000000 in
set_option maxRecDepth 100000 in
theorem awake_law (W0 W : World) (hB : Below W0.heap.size W0 W) (htab : Tab W0) :
    Calls Tryd.prog 14 #[] W fun e w' => e = .returned (.bool true) ∧ Below W0.heap.size W0 w' := by
  have HB := Aside0.mk hB
  have HT := Aside0.mk htab
  clear hB htab
  go_enter Tryd.func14, Tryd.ntmps14
  go_upto_region 2 with (go_at_call 8; refine (new_cw HB.out).mono ?_; rintro e w0 ⟨b, Fp0, rfl, hcw, _⟩; have C0 := Aside0.mk hcw; clear hcw)
  go_upto_region 3 with (first | ((with_reducible refine gate_dst (N := 15) rfl ?_); (try (refine gate_guard (by rfl) ?_; dsimp only)); refine Kd.R_lit (Kd.int .i64) w0.heap.size 3 ?hg (N := 15) ?hd (xs := ([1, 2] : List Int)) (inner := [.int .i64 1, .int .i64 2]) (ok := fun q => w0.heap.size ≤ q) (okp := fun _ => False) ?hr ?hp (fun _ hk => hk.elim) (Nat.le_refl _) (Below.refl _ _) (Nat.le_refl _) (by simp) ?_; (case hd => rfl); (case hg => rfl); (case hr => first | (go_simp; done) | (go_simp; rfl)); (case hp => exact Reps.one rfl (Reps.one rfl (Reps.none _ _))); intro v_ w0b ho_ hb_ hg_ hnew_; obtain ⟨Ap, cp, rfl, hcp, _⟩ := Kd.R_reads ho_; have HFp := Aside0.mk (C0.out.new hb_ ho_); have HCp := Aside0.mk hcp; have HB_w0b := Aside0.mk hb_; have C0b := Aside0.mk (C0.out.below hb_); clear hg_ hnew_ ho_ hb_ hcp C0) | (go_at_call 12; refine (put_cw C0b.out HT.out ⟨#[117]⟩ (small _) Ap cp [1, 2] HCp.out HFp.out (by decide) (by decide)).mono ?_; rintro e w1 ⟨he_, Fp1, hcw_, hk_, hs_⟩; rw [dec_1] at he_; subst he_; have C1 := Aside0.mk (show CW W0 w1 Fp1 b 1 awM1 from hcw_); have HK1 := Aside0.mk hk_; clear hcw_ hk_ hs_ C0b) | ((with_reducible refine gate_dst (N := 18) rfl ?_); (try (refine gate_guard (by rfl) ?_; dsimp only)); refine Kd.R_lit (Kd.int .i64) w1.heap.size 3 ?hg (N := 18) ?hd (xs := ([3] : List Int)) (inner := [.int .i64 3]) (ok := fun q => w1.heap.size ≤ q) (okp := fun _ => False) ?hr ?hp (fun _ hk => hk.elim) (Nat.le_refl _) (Below.refl _ _) (Nat.le_refl _) (by simp) ?_; (case hd => rfl); (case hg => rfl); (case hr => first | (go_simp; done) | (go_simp; rfl)); (case hp => exact Reps.one rfl (Reps.none _ _)); intro v_ w1b ho_ hb_ hg_ hnew_; obtain ⟨Aq, cq, rfl, hcq, _⟩ := Kd.R_reads ho_; have HFq := Aside0.mk (C1.out.new hb_ ho_); have HCq := Aside0.mk hcq; have HB_w1b := Aside0.mk hb_; have C1b := Aside0.mk (C1.out.below hb_); clear hg_ hnew_ ho_ hb_ hcq C1) | (go_at_call 12; refine (put_cw C1b.out HT.out ⟨#[118]⟩ (small _) Aq cq [3] HCq.out HFq.out (by decide) (by decide)).mono ?_; rintro e w2 ⟨he_, Fp2, hcw_, hk_, hs_⟩; rw [dec_2] at he_; subst he_; have C2 := Aside0.mk (show CW W0 w2 Fp2 b 2 awM2 from hcw_); have HK2 := Aside0.mk hk_; clear hcw_ hk_ hs_ C1b) | (go_at_call 12; refine (put_cw C2.out HT.out ⟨#[117]⟩ (small _) none 0 [] (Nat.le_refl _) (F_nil _ _) (by decide) (by decide)).mono ?_; rintro e w3 ⟨he_, Fp3, hcw_, hk_, hs_⟩; rw [dec_3] at he_; subst he_; have C3 := Aside0.mk (show CW W0 w3 Fp3 b 3 awM3 from hcw_); have HK3 := Aside0.mk hk_; clear hcw_ hk_ hs_ C2))
  go_upto_region 4 with (go_at_call 11; refine (get_cw C3.out ⟨#[117]⟩ ⟨#[49]⟩ (small _)).mono ?_; rintro e w4 ⟨Al, cl, he_, hc_, hF_, hR_, hcw_, hb_⟩; rw [aw_a] at he_ hc_ hF_; subst he_; have HFl := Aside0.mk hF_; have HCl := Aside0.mk hc_; have HBl := Aside0.mk hb_; have C4 := Aside0.mk hcw_; clear hc_ hF_ hR_ hcw_ hb_ C3)
  go_upto_region 5 with (go_at_call 11; refine (get_cw C4.out ⟨#[117]⟩ ⟨#[50]⟩ (small _)).mono ?_; rintro e w5 ⟨Am, cm, he_, hc_, hF_, hR_, hcw_, hb_⟩; rw [aw_b] at he_ hc_ hF_; subst he_; have HFm := Aside0.mk hF_; have HCm := Aside0.mk hc_; have HBm := Aside0.mk hb_; have C5 := Aside0.mk hcw_; clear hc_ hF_ hR_ hcw_ hb_ C4)
  go_upto_region 6 with (go_at_call 11; refine (get_cw C5.out ⟨#[117]⟩ ⟨#[51]⟩ (small _)).mono ?_; rintro e w6 ⟨Ao, co, he_, hc_, hF_, hR_, hcw_, hb_⟩; rw [aw_c] at he_ hc_ hF_; subst he_; have HFo := Aside0.mk hF_; have HCo := Aside0.mk hc_; have HBo := Aside0.mk hb_; have C6 := Aside0.mk hcw_; clear hc_ hF_ hR_ hcw_ hb_ C5)
  go_upto_region 7 with (go_at_call 12; refine (put_cw C6.out HT.out ⟨#[117]⟩ (small _) none 0 [] (Nat.le_refl _) (F_nil _ _) (by decide) (by decide)).mono ?_; rintro e w7 ⟨he_, Fp4, hcw_, hk_, hs_⟩; rw [dec_4] at he_; subst he_; have C7 := Aside0.mk (show CW W0 w7 Fp4 b 4 awM4 from hcw_); have HK4 := Aside0.mk hk_; clear hcw_ hk_ hs_ C6)
  go_upto_region 8 with (go_at_call 12; refine (put_cw C7.out HT.out ⟨#[117]⟩ (small _) none 0 [] (Nat.le_refl _) (F_nil _ _) (by decide) (by decide)).mono ?_; rintro e w8 ⟨he_, Fp5, hcw_, hk_, hs_⟩; rw [dec_5] at he_; subst he_; have C8 := Aside0.mk (show CW W0 w8 Fp5 b 5 awM5 from hcw_); have HK5 := Aside0.mk hk_; clear hcw_ hk_ hs_ C7)
  go_upto_region 9 with (go_at_call 12; refine (put_cw C8.out HT.out ⟨#[117]⟩ (small _) none 0 [] (Nat.le_refl _) (F_nil _ _) (by decide) (by decide)).mono ?_; rintro e w9 ⟨he_, Fp6, hcw_, hk_, hs_⟩; rw [dec_6] at he_; subst he_; have C9 := Aside0.mk (show CW W0 w9 Fp6 b 6 awM6 from hcw_); have HK6 := Aside0.mk hk_; clear hcw_ hk_ hs_ C8)
  go_upto_region 10 with (go_at_call 11; refine (get_cw C9.out ⟨#[117]⟩ ⟨#[49]⟩ (small _)).mono ?_; rintro e w10 ⟨An, cn, he_, hc_, hF_, hR_, hcw_, hb_⟩; rw [aw_d] at he_ hc_ hF_; subst he_; have HFn := Aside0.mk hF_; have HCn := Aside0.mk hc_; have HBn := Aside0.mk hb_; have C10 := Aside0.mk hcw_; clear hc_ hF_ hR_ hcw_ hb_ C9)
  have HFL := Aside0.mk (F_keep HFl.out ((keep_below (Fp := Fp3) HBm.out).trans ((keep_below (Fp := Fp3) HBo.out).trans (HK4.out.trans (HK5.out.trans (HK6.out.trans (keep_below HBn.out)))))))
  obtain ⟨KS, hKS⟩ := same_self [1, 2] (by decide)
  obtain ⟨KT, hKT⟩ := sameT_self [⟨#[51]⟩, ⟨#[52]⟩, ⟨#[53]⟩, ⟨#[54]⟩] (by decide)
  have HKS := Aside0.mk hKS
  have HKT := Aside0.mk hKT
  clear hKS hKT
  go_wp2_with (first | ((with_reducible refine gate_dst (N := 63) rfl ?_); (try (refine gate_guard (by rfl) ?_; dsimp only)); refine Kd.R_lit (Kd.int .i64) w10.heap.size 3 ?hg (N := 63) ?hd (xs := ([1, 2] : List Int)) (inner := [.int .i64 1, .int .i64 2]) (ok := fun q => w10.heap.size ≤ q) (okp := fun _ => False) ?hr ?hp (fun _ hk => hk.elim) (Nat.le_refl _) (Below.refl _ _) (Nat.le_refl _) (by simp) ?_; (case hd => rfl); (case hg => rfl); (case hr => first | (go_simp; done) | (go_simp; rfl)); (case hp => exact Reps.one rfl (Reps.one rfl (Reps.none _ _))); intro v_ w11 ho_ hb_ hg_ hnew_; obtain ⟨Ar, cr, rfl, hcr, _⟩ := Kd.R_reads ho_; have HFr := Aside0.mk (C10.out.new hb_ ho_); have HCr := Aside0.mk hcr; have HB_w11 := Aside0.mk hb_; have C10b := Aside0.mk (C10.out.below hb_); clear hg_ hnew_ ho_ hb_ hcr C10) | (go_at_call 16; refine (glossatorref25_Same.calls KS Al cl [1, 2] Ar cr [1, 2] true w11 (Kd.C_below (Kd.F_now HFL.out) HB_w11.out) HCl.out (Kd.F_now HFr.out) HCr.out HKS.out).mono ?_; rintro e w12 ⟨rfl, hd_⟩; have C12 := Aside0.mk (C10b.out.below hd_.below); clear hd_ C10b) | (go_at_call 13; refine (kept_cw C12.out ⟨#[117]⟩ (small _)).mono ?_; rintro e w13 ⟨Ak, ck, he_, hc_, hF_, hcw_, hb_⟩; rw [aw_e] at he_ hc_ hF_; subst he_; have HFk := Aside0.mk hF_; have HCk := Aside0.mk hc_; have C13 := Aside0.mk hcw_; clear hc_ hF_ hcw_ hb_ C12) | ((with_reducible refine gate_dst (N := 85) rfl ?_); (try (refine gate_guard (by rfl) ?_; dsimp only)); refine Kd.R_lit Kd.string w13.heap.size 9 ?hg (N := 85) ?hd (xs := ([⟨#[51]⟩, ⟨#[52]⟩, ⟨#[53]⟩, ⟨#[54]⟩] : List ByteArray)) (inner := [.string ⟨#[51]⟩, .string ⟨#[52]⟩, .string ⟨#[53]⟩, .string ⟨#[54]⟩]) (ok := fun q => w13.heap.size ≤ q) (okp := fun _ => False) ?hr ?hp (fun _ hk => hk.elim) (Nat.le_refl _) (Below.refl _ _) (Nat.le_refl _) (by simp) ?_; (case hd => rfl); (case hg => rfl); (case hr => first | (go_simp; done) | (go_simp; rfl)); (case hp => exact Reps.one rfl (Reps.one rfl (Reps.one rfl (Reps.one rfl (Reps.none _ _))))); intro v_ w14 ho_ hb_ hg_ hnew_; obtain ⟨At, ct, rfl, hct, _⟩ := Kd.R_reads ho_; have HFt := Aside0.mk (C13.out.new hb_ ho_); have HCt := Aside0.mk hct; have HB_w14 := Aside0.mk hb_; have C13b := Aside0.mk (C13.out.below hb_); clear hg_ hnew_ ho_ hb_ hct C13) | (go_at_call 15; refine (glossatorref25_SameTexts.calls KT Ak ck [⟨#[51]⟩, ⟨#[52]⟩, ⟨#[53]⟩, ⟨#[54]⟩] At ct [⟨#[51]⟩, ⟨#[52]⟩, ⟨#[53]⟩, ⟨#[54]⟩] true w14 (Kd.C_below (Kd.F_now HFk.out) HB_w14.out) HCk.out (Kd.F_now HFt.out) HCt.out HKT.out).mono ?_; rintro e w15 ⟨rfl, hd_⟩; have C15 := Aside0.mk (C13b.out.below hd_.below); clear hd_ C13b))
  go_ret
  exact ⟨rfl, C15.out.bel⟩
end Go.Proofs.YtaphacgdokhmmaaDoor.H
