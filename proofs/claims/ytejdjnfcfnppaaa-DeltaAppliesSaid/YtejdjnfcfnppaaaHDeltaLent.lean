/- Lists with room behind: 'lent' and 'kept' of the law, told of what stands behind, too. -/
import Derived.Test.YtejdjnfcfnppaaaHxglossatorref24Same
set_option linter.unusedVariables false
set_option linter.unusedSimpArgs false
namespace Go.Proofs.Ytejdjnfcfnppaaa.H
open Go.RowKit Go.Proofs.YtejdjnfcfnppaaaW.PrintWords Go.Proofs.YtejdjnfcfnppaaaW.PrintLast Go.Proofs.YtejdjnfcfnppaaaW.PrintMore
attribute [local go_sem] max2_int min2_int max_two min_two max_three min_three max_four min_four   -- for this text's walks alone

/-- Up to a place that may lie behind the slice's end. -/
theorem cut_over {P : Program} (t e : TypeId) (kl : IntKind) {i : TypeInfo} (ht : P.underlying t = some (.slice e)) (hi : P.info? e = some i) (hsz : i.size = 1) (A : Option Addr) (n c : Nat) (j : Int) (h0 : 0 ≤ j) (hm : j ≤ c) :
    ∀ W : World, (Instr.slice t (.slice A n c) none (some (.int kl j)) none).run P W = .ok (.slice A j.toNat c) W := fun W => by
  have hel : P.elem t = e := by simp [Program.elem, ht]
  have hu : P.underlying t = some (.slice (P.elem t)) := by rw [hel]; exact ht
  have ha : (A.map fun x => x.add 0) = A := by cases A <;> simp [Addr.add]
  rw [run_slice_h W t A n c hu kl j h0 (by omega), hel]
  simp [sizeOf, typeInfo, hi, hsz, sliced, Result.andThen, ha]

set_option maxHeartbeats 8000000 in
set_option maxRecDepth 100000 in
theorem lent_calls (A0 : Option Addr) (c0 : Nat) (l0 : List Int) (w : World) (hr0 : Kd.C (Kd.int .i64) w A0 l0.length l0) (hc0 : l0.length ≤ c0) (hn : l0.length ≤ 60000) :
    Calls Try.prog 10 #[.slice A0 l0.length c0] w fun e w' => ∃ (A : Option Addr) (c : Nat), e = .returned (.slice A l0.length c) ∧ Kd.R (Kd.int .i64) 3 w' w.heap.size (fun _ => True) (.slice A (l0.length + 2) c) (l0 ++ [77, 77]) ∧ Below w.heap.size w w' := by
  have HR0 := Aside0.mk hr0
  have HC0 := Aside0.mk hc0
  clear hr0 hc0
  have HB := Aside0.mk (Below.refl w.heap.size w)
  obtain ⟨y178, hy178⟩ : ∃ y_ : List Int, y_ = (([] : List Int)) := ⟨_, rfl⟩
  have LMc2 : Aside0 (y178.length + l0.length < 17592186044416) := ⟨by rw [hy178]; simp; omega⟩
  obtain ⟨y181, hy181⟩ : ∃ y_ : List Int, y_ = (y178 ++ l0) := ⟨_, rfl⟩
  obtain ⟨y184, hy184⟩ : ∃ y_ : List Int, y_ = (([77, 77] : List Int)) := ⟨_, rfl⟩
  have LMc3 : Aside0 (y181.length + y184.length < 17592186044416) := ⟨by rw [hy181, hy184, hy178]; simp; omega⟩
  obtain ⟨y187, hy187⟩ : ∃ y_ : List Int, y_ = (y181 ++ y184) := ⟨_, rfl⟩
  have HY : Aside0 (y187 = l0 ++ [77, 77]) := ⟨by rw [hy187, hy181, hy184, hy178, List.nil_append]⟩
  have c4 : 0 ≤ (l0.length : Int) := by omega
  have c5 : (l0.length : Int) ≤ (y187.length : Int) := by rw [HY.out]; simp; omega
  have Ny178 := Aside0.mk hy178
  have Ny181 := Aside0.mk hy181
  have Ny184 := Aside0.mk hy184
  have Ny187 := Aside0.mk hy187
  clear hy178 hy181 hy184 hy187 hn
  have c4b0 := eq_true c4
  have c4b1 : decide (0 ≤ (l0.length : Int)) = true := decide_eq_true c4
  have c5b0 := eq_true c5
  have c5b1 : decide ((l0.length : Int) ≤ (y187.length : Int)) = true := decide_eq_true c5
  clear c4 c5
  go_enter Try.func10, Try.ntmps10
  go_wp2_with (first | ((with_reducible refine gate_dst (N := 4) rfl ?_); refine Kd.R_lit (Kd.int .i64) _ 3 ?hg (N := 4) ?hd (xs := ([] : List Int)) (inner := []) (ok := fun _ => True) (okp := fun _ => True) ?hr ?hp (fun _ hk => hk) trivial (Below.refl _ _) (Nat.le_refl _) (by simp) ?_; (case hd => rfl); (case hg => rfl); (case hr => first | (go_simp; done) | (go_simp; rfl)); (case hp => exact (Reps.none _ _)); intro v179 w6 ho7 hb hg_ hnew_; clear hg_ hnew_; (first | rw [← Ny178.out] at ho7 | (simp only [Int.reduceToNat] at ho7; rw [← Ny178.out] at ho7)); have n0_ := Aside0.mk (Kd.R_lower ho7 (below_size (by repeat (first | (with_reducible first | exact HB.out | apply below_alloc | apply pw_below_drewN | apply below_drew1) | exact HB.out)))); have n1_ := Aside0.mk (below_step (by repeat (first | (with_reducible first | exact HB.out | apply below_alloc | apply pw_below_drewN | apply below_drew1) | exact HB.out)) hb); clear HB; have HO180 := n0_; have HB := n1_; clear n0_ n1_; clear hb ho7) | ((with_reducible refine gate_builtin (b := .append) (xs := #[.tmp 4, .tmp 5]) rfl ?_); at_builtin; refine Kd.R_append_rows (Kd.int .i64) (w0 := w) w.heap.size rfl (.tmp 4) (.tmp 5) 22 3 (.int .i64 0) 8 rfl Try.underlying22 info3 rfl (by decide) (by omega) v179 y178 l0 _ _ _ (fun _ => True) (fun _ => False) rfl rfl ?aO ?aR (fun _ _ h => h) (fun _ h => h.elim) ?aF ?aB ?aS ?aL ?_; (case aR => repeat (first | exact (Kd.C_below HR0.out HB.out) | (with_reducible refine Kd.C_alloc ?_ _) | (with_reducible refine Kd.C_drewN ?_ _) | (with_reducible refine Kd.C_drew ?_))); (case aB => exact (by repeat (first | (with_reducible first | exact HB.out | apply below_alloc | apply pw_below_drewN | apply below_drew1) | exact HB.out))); (case aF => exact (fun _ _ => trivial)); (case aO => exact (by (with_reducible repeat (first | apply Kd.R_alloc | apply Kd.R_drewN | apply Kd.R_drew)); exact HO180.out)); (case aS => exact (below_size (by repeat (first | (with_reducible first | exact HB.out | apply below_alloc | apply pw_below_drewN | apply below_drew1) | exact HB.out)))); (case aL => have := LMc2.out; omega); intro v182 w8 ho hb hg hat; rw [← Ny181.out] at ho; have n0_ := Aside0.mk (hb); have n1_ := Aside0.mk (ho); clear HB; clear HO180; have HB := n0_; have HO183 := n1_; clear n0_ n1_; clear ho hb hg hat) | ((with_reducible refine gate_dst (N := 7) rfl ?_); refine Kd.R_lit (Kd.int .i64) _ 3 ?hg (N := 7) ?hd (xs := ([77, 77] : List Int)) (inner := [.int .i64 77, .int .i64 77]) (ok := fun _ => True) (okp := fun _ => True) ?hr ?hp (fun _ hk => hk) trivial (Below.refl _ _) (Nat.le_refl _) (by simp) ?_; (case hd => rfl); (case hg => rfl); (case hr => first | (go_simp; done) | (go_simp; rfl)); (case hp => exact (Reps.one (show Kd.M (Kd.int .i64) _ _ _ 77 [.int .i64 77] from rfl) (Reps.one (show Kd.M (Kd.int .i64) _ _ _ 77 [.int .i64 77] from rfl) (Reps.none _ _)))); intro v185 w9 ho10 hb hg_ hnew_; clear hg_ hnew_; (first | rw [← Ny184.out] at ho10 | (simp only [Int.reduceToNat] at ho10; rw [← Ny184.out] at ho10)); have n0_ := Aside0.mk (Kd.R_elder' (by (with_reducible repeat (first | apply Kd.R_alloc | apply Kd.R_drewN | apply Kd.R_drew)); exact HO183.out) (Kd.R_base ho10) hb); have n1_ := Aside0.mk (Kd.R_lower (Kd.R_new' ho10 (Kd.R_lt (by (with_reducible repeat (first | apply Kd.R_alloc | apply Kd.R_drewN | apply Kd.R_drew)); exact HO183.out))) (below_size (by repeat (first | (with_reducible first | exact HB.out | apply below_alloc | apply pw_below_drewN | apply below_drew1) | exact HB.out)))); have n2_ := Aside0.mk (below_step (by repeat (first | (with_reducible first | exact HB.out | apply below_alloc | apply pw_below_drewN | apply below_drew1) | exact HB.out)) hb); clear HO183; clear HB; have HO183 := n0_; have HO186 := n1_; have HB := n2_; clear n0_ n1_ n2_; clear hb ho10; obtain ⟨Ao12, co12, eo12⟩ := Kd.R_slice HO186.out; subst eo12) | ((with_reducible refine gate_builtin (b := .append) (xs := #[.tmp 6, .tmp 7]) rfl ?_); at_builtin; refine Kd.R_append_rows (Kd.int .i64) (w0 := w) w.heap.size rfl (.tmp 6) (.tmp 7) 22 3 (.int .i64 0) 8 rfl Try.underlying22 info3 rfl (by decide) (by omega) v182 y181 y184 _ _ _ (fun k_ => some k_ ≠ (.slice Ao12 y184.length co12 : Value).ownBlock) (fun _ => False) rfl rfl ?aO ?aR (fun _ _ h => h) (fun _ h => h.elim) ?aF ?aB ?aS ?aL ?_; (case aR => repeat (first | exact (Kd.R_reads' HO186.out).2.2 | (with_reducible refine Kd.C_alloc ?_ _) | (with_reducible refine Kd.C_drewN ?_ _) | (with_reducible refine Kd.C_drew ?_))); (case aB => exact (by repeat (first | (with_reducible first | exact HB.out | apply below_alloc | apply pw_below_drewN | apply below_drew1) | exact HB.out))); (case aF => exact (fun k_ hk => Kd.fresh' (Kd.R_lt (by (with_reducible repeat (first | apply Kd.R_alloc | apply Kd.R_drewN | apply Kd.R_drew)); exact HO186.out)) k_ hk)); (case aO => exact (by (with_reducible repeat (first | apply Kd.R_alloc | apply Kd.R_drewN | apply Kd.R_drew)); exact Kd.R_mono HO183.out (fun _ hk => hk.2))); (case aS => exact (below_size (by repeat (first | (with_reducible first | exact HB.out | apply below_alloc | apply pw_below_drewN | apply below_drew1) | exact HB.out)))); (case aL => have := LMc3.out; omega); intro v188 w11 ho hb hg hat; rw [← Ny187.out] at ho; have n0_ := Aside0.mk (Kd.R_after (ok := (fun _ => True)) (by (with_reducible repeat (first | apply Kd.R_alloc | apply Kd.R_drewN | apply Kd.R_drew)); exact HO186.out) hg hat); have n1_ := Aside0.mk (hb); have n2_ := Aside0.mk (ho); clear HO186; clear HB; clear HO183; have HO186 := n0_; have HB := n1_; have HO189 := n2_; clear n0_ n1_ n2_; clear ho hb hg hat; obtain ⟨Ao13, co13, eo13⟩ := Kd.R_slice HO189.out; subst eo13; have q14 : ((l0.length : Int) : Int) ≤ ((y187.length : Int) : Int) := of_decide_eq_true (by first | (with_reducible assumption) | assumption); obtain ⟨i014, hi014, _, hsz14, _⟩ := info_parts info3; have hcut14 := cut_to (P := Try.prog) 22 3 .i64 Try.underlying22 hi014 Ao13 y187.length co13 (l0.length : Int) (of_decide_eq_true (by first | (with_reducible assumption) | assumption)) q14 (Kd.R_reads' HO189.out).2.1; replace q14 := eq_true q14; clear hi014 hsz14))
  go_ret
  have e : y187.length = l0.length + 2 := by rw [HY.out]; simp
  have ho := HO189.out
  rw [e, HY.out] at ho
  exact ⟨_, _, rfl, Kd.R_mono ho (fun _ _ => trivial), HB.out⟩

set_option maxHeartbeats 8000000 in
set_option maxRecDepth 100000 in
theorem kept_calls (k : Nat) (A0 : Option Addr) (c0 : Nat) (A1 : Option Addr) (c1 : Nat) (l : List Int) (w : World) (hr0 : Kd.C (Kd.int .i64) w A0 (l.length + 2) (l ++ [77, 77])) (hc0 : l.length + 2 ≤ c0) (hr1 : Kd.C (Kd.int .i64) w A1 l.length l) (hc1 : l.length ≤ c1) (hn : l.length ≤ 60000) (hs : glossatorref24_Same.f k l l = some true) :
    Calls Try.prog 14 #[.slice A0 l.length c0, .slice A1 l.length c1] w fun e w' => e = .returned (.bool true) ∧ Drawn0 w w' := by
  obtain ⟨i3, hi3, _, hs3, _⟩ := info_parts info3
  have hcut := cut_over (P := Try.prog) 22 3 .i64 Try.underlying22 hi3 hs3 A0 l.length c0 ((l.length : Int) + 2) (by omega) (by omega)
  have hcut2 := cut_over (P := Try.prog) 22 3 .i64 Try.underlying22 hi3 hs3 A0 (l.length + 2) c0 (l.length : Int) (by omega) (by omega)
  rw [show ((l.length : Int) + 2).toNat = l.length + 2 by omega] at hcut
  rw [Int.toNat_natCast] at hcut2
  have e1 : IntKind.i64.wrap ((l.length : Int) + 2) = (l.length : Int) + 2 := by rw [i64_w]; unfold wrap64; omega
  have e2 : IntKind.i64.wrap ((l.length : Int) + 1) = (l.length : Int) + 1 := by rw [i64_w]; unfold wrap64; omega
  have g : ∀ j v, (l ++ [77, 77])[j]? = some v → ∃ ad, A0 = some ad ∧ w.cell? (ad.add j) = some (.int .i64 v) := by
    intro j v h
    have hr : ReadsOf (Value.int .i64) (0 : Int) w A0 (l.length + 2) (l ++ [77, 77]) := Kd.reads_of_C hr0
    obtain ⟨ad, e, hc⟩ := hr.2.2 (by omega)
    have hj : j < l.length + 2 := by
      obtain ⟨hlt, _⟩ := List.getElem?_eq_some_iff.1 h
      simpa using hlt
    refine ⟨ad, e, ?_⟩
    rw [hc j hj, List.getD_eq_getElem?_getD, h]
    rfl
  have hC0 : Kd.C (Kd.int .i64) w A0 l.length l := by
    have := ReadsOf.take_ (Kd.reads_of_C (enc := Value.int .i64) (d := 0) hr0) l.length (by omega)
    rw [List.take_left' rfl] at this
    exact Kd.C_of_reads this
  obtain ⟨ad, rfl, g0⟩ := g l.length 77 (by simp)
  obtain ⟨ad', e, g1⟩ := g (l.length + 1) 77 (by simp)
  obtain rfl := Option.some.inj e
  clear g e
  have HR0 := Aside0.mk hC0
  have HR1 := Aside0.mk hr1
  have HC0 := Aside0.mk hc0
  have HC1 := Aside0.mk hc1
  have HS := Aside0.mk hs
  clear hr0 hr1 hc0 hc1 hs hC0 hi3 hs3 hn
  have g2 : w.cell? ⟨ad.block, ad.off + (l.length + 1), none⟩ = some (.int .i64 77) := g1
  go_enter Try.func14, Try.ntmps14
  have hd1 : decide ((l.length : Int) < ((l.length + 2 : Nat) : Int)) = true := decide_eq_true (by omega)
  have hd2 : decide ((l.length : Int) + 1 < ((l.length + 2 : Nat) : Int)) = true := decide_eq_true (by omega)
  have hd3 : decide (0 ≤ (l.length : Int) + 1) = true := decide_eq_true (by omega)
  go_wp2_with fail
  refine (glossatorref24_Same.calls k _ _ l _ _ l true _ HR0.out (by have := HC0.out; omega) HR1.out HC1.out HS.out).mono ?_
  rintro e w' ⟨rfl, ⟨nd, rfl⟩⟩
  go_wp2
  go_ret
  exact ⟨rfl, by repeat (first | exact Drawn0.refl _ | apply Drawn0.step)⟩
end Go.Proofs.Ytejdjnfcfnppaaa.H
