/- The contract of delta.Edits: what it answers is 'delta_Edits.f', for any two lists that can be read and are not too long for memory; what it hands back is new memory. -/
import Derived.Test.YtejdjnfcfnppaaaHDeltaAlike
namespace Go.Proofs.Ytejdjnfcfnppaaa.H
open Go.RowKit Go.Proofs.YtejdjnfcfnppaaaW.PrintWords Go.Proofs.YtejdjnfcfnppaaaW.PrintLast Go.Proofs.YtejdjnfcfnppaaaW.PrintMore
attribute [local go_sem] min_two   -- for this text's walks alone

theorem below_of_grown {w w1 : World} (hg : w.grownBy w1 none) : Below w.heap.size w w1 := ⟨hg.os, hg.tape, hg.output, hg.size, fun k hk => hg.block k hk (by simp)⟩

/-- What two lists differ in. -/
def delta_Edits.f (a b : List Int) : Option (List S27) :=
  if a.length ≤ 17592186044416 ∧ b.length ≤ 17592186044416 then
    if a.length - pre a b + (b.length - pre a b) = 0 then some []
    else some [⟨pre a b, ((a.length - pre a b : Nat) : Int) - (pre (a.drop (pre a b)).reverse (b.drop (pre a b)).reverse : Nat), (b.drop (pre a b)).take (b.length - pre a b - pre (a.drop (pre a b)).reverse (b.drop (pre a b)).reverse)⟩]
  else none

set_option maxHeartbeats 4000000 in
set_option maxRecDepth 100000 in
theorem delta_Edits.callsR (A0 : Option Addr) (c0 : Nat) (l0 : List Int) (A1 : Option Addr) (c1 : Nat) (l1 : List Int) (r : List S27) (w : World) (hr0 : Kd.C (Kd.int .i64) w A0 l0.length l0) (hc0 : l0.length ≤ c0) (hr1 : Kd.C (Kd.int .i64) w A1 l1.length l1) (hc1 : l1.length ≤ c1) (h : delta_Edits.f l0 l1 = some r) :
    Calls Try.prog 16 #[.slice A0 l0.length c0, .slice A1 l1.length c1] w fun e w' => ∃ v0_ : Value, e = .returned v0_ ∧ Kd.R k27 27 w' w.heap.size (fun _ => True) v0_ r ∧ Below w.heap.size w w' := by
  unfold delta_Edits.f at h
  by_cases hb : l0.length ≤ 17592186044416 ∧ l1.length ≤ 17592186044416
  case neg => rw [if_neg hb] at h; cases h
  rw [if_pos hb] at h
  obtain ⟨hb0, hb1⟩ := hb
  have H := Aside0.mk h
  clear h
  have HR0 := Aside0.mk hr0
  have HC0 := Aside0.mk hc0
  clear hr0 hc0
  have HR1 := Aside0.mk hr1
  have HC1 := Aside0.mk hc1
  clear hr1 hc1
  obtain ⟨i3, hi3, hz3⟩ := Option.map_eq_some_iff.1 info3
  have hs3 : i3.size = 1 := by simp only [Prod.mk.injEq] at hz3; exact hz3.2.1
  clear hz3
  have hu27 := Try.underlying27
  obtain ⟨n, hn⟩ : ∃ n, n = min l0.length l1.length := ⟨_, rfl⟩
  have HN := Aside0.mk hn
  have hmin : Builtin.min2 (.int .i64 (l0.length : Int)) (.int .i64 (l1.length : Int)) = pure (.int .i64 (n : Int)) := by rw [min2_int]; congr 2; split <;> omega
  have hn0 : n ≤ l0.length := by omega
  have hn1 : n ≤ l1.length := by omega
  clear hn
  go_enter Try.func16, Try.ntmps16
  go_wp2_with fail
  obtain ⟨W1, hW1⟩ : ∃ W1, W1 = (w.alloc (.cells #[.slice A0 l0.length c0] 22)).alloc (.cells #[.slice A1 l1.length c1] 22) := ⟨_, rfl⟩
  rw [← hW1]
  have hb0 : W1.heap[w.heap.size]? = some (.cells #[.slice A0 l0.length c0] 22 (0, 0)) := by rw [hW1, Below.heap_alloc _ _ _ (by simp)]; exact heap_alloc_new w _
  have hb1 : W1.heap[w.heap.size + 1]? = some (.cells #[.slice A1 l1.length c1] 22 (0, 0)) := by rw [hW1]; have := heap_alloc_new (w.alloc (.cells #[.slice A0 l0.length c0] 22)) (.cells #[.slice A1 l1.length c1] 22); simpa using this
  have HB1 := Aside0.mk (show Below w.heap.size w W1 by rw [hW1]; exact Below.alloc (below_alloc (Below.refl _ _) _) (by simp) _)
  clear hW1
  refine (alike29_calls (fun i => rd l0 i == rd l1 i) n _ _ _ (by omega) ⟨fun i hi m => ?_⟩).mono ?_
  · exact edits1_calls i _ _ _ _ _ _ _ l0 l1 (blk_cell (w := W1) hb0 0) (blk_cell (w := W1) hb1 0) (Kd.C_drewN (Kd.C_below HR0.out HB1.out) _) (Kd.C_drewN (Kd.C_below HR1.out HB1.out) _) (by omega) (by omega)
  rintro e W2 ⟨q, rfl, hq, hd⟩
  have hqs : q = pre l0 l1 := by rw [HN.out] at hq; exact pre_of_alike hq
  have H2 := H.out
  rw [← hqs] at H2
  have hq0 : q ≤ l0.length := by have := hq.1; omega
  have hq1 : q ≤ l1.length := by have := hq.1; omega
  clear H hq hqs HN hmin hn0 hn1
  have H := Aside0.mk H2
  clear H2
  replace hb0 := (hd.below.block _ (blk_lt hb0)).trans hb0
  replace hb1 := (hd.below.block _ (blk_lt hb1)).trans hb1
  have HB2 := Aside0.mk (below_step HB1.out hd.below)
  clear hd HB1
  have hk0 := blk_cell hb0 0
  have hk1 := blk_cell hb1 0
  have hf0 := blk_frozen hb0 0
  have hf1 := blk_frozen hb1 0
  simp at hk0 hk1
  obtain ⟨a, ha⟩ : ∃ a, a = l0.drop q := ⟨_, rfl⟩
  obtain ⟨b, hb⟩ : ∃ b, b = l1.drop q := ⟨_, rfl⟩
  obtain ⟨A2, hcut0, hA2, hl2⟩ := print_cut_int (P := Try.prog) (k := .i64) 22 3 Try.underlying22 hi3 hs3 A0 c0 l0 (q : Int) (by omega) (by omega) HC0.out
  obtain ⟨A3, hcut1, hA3, hl3⟩ := print_cut_int (P := Try.prog) (k := .i64) 22 3 Try.underlying22 hi3 hs3 A1 c1 l1 (q : Int) (by omega) (by omega) HC1.out
  rw [Int.toNat_natCast, ← ha] at hcut0 hA2 hl2
  rw [Int.toNat_natCast, ← hb] at hcut1 hA3 hl3
  have hal : a.length = l0.length - q := by rw [ha, List.length_drop]
  have hbl : b.length = l1.length - q := by rw [hb, List.length_drop]
  have H2 := H.out
  rw [← hal, ← hbl, ← ha, ← hb] at H2
  have hab : a.length ≤ 17592186044416 := by omega
  have hbb : b.length ≤ 17592186044416 := by omega
  clear H ha hb hal hbl
  have H := Aside0.mk H2
  have HA2 := Aside0.mk hA2
  have HA3 := Aside0.mk hA3
  have HC2 := Aside0.mk hl2
  have HC3 := Aside0.mk hl3
  clear H2 hA2 hA3 hl2 hl3
  have HK0 := Aside0.mk hb0
  have HK1 := Aside0.mk hb1
  clear hb0 hb1
  go_wp2
  go_region
  obtain ⟨W3, hW3⟩ : ∃ W3, W3 = ((W2.setCell ⟨w.heap.size, 0, none⟩ (.slice A2 a.length (c0 - q))).setCell ⟨w.heap.size + 1, 0, none⟩ (.slice A3 b.length (c1 - q))).drew := ⟨_, rfl⟩
  rw [← hW3]
  have hb0 : W3.heap[w.heap.size]? = some (.cells #[.slice A2 a.length (c0 - q)] 22 (0, 0)) := by
    rw [hW3]
    exact blk_far (blk_set HK0.out 0 _) (show w.heap.size ≠ w.heap.size + 1 by omega) _
  have hb1 : W3.heap[w.heap.size + 1]? = some (.cells #[.slice A3 b.length (c1 - q)] 22 (0, 0)) := by
    rw [hW3]
    exact blk_set (blk_far HK1.out (show w.heap.size + 1 ≠ w.heap.size by omega) _) 0 _
  have HB3 := Aside0.mk (show Below w.heap.size w W3 by rw [hW3]; exact ((HB2.out.setCell (Nat.le_refl _) _).setCell (Nat.le_succ _) _).drew)
  clear hW3 HK0 HK1 hk0 hk1 hf0 hf1 hcut0 hcut1 HB2
  have hk0 := blk_cell hb0 0
  have hk1 := blk_cell hb1 0
  simp at hk0 hk1
  have HA := Aside0.mk (show Kd.C (Kd.int .i64) W3 A2 a.length a from Kd.C_of_reads (HA2.out _ (Kd.reads_of_C (Kd.C_below HR0.out HB3.out))))
  have HB := Aside0.mk (show Kd.C (Kd.int .i64) W3 A3 b.length b from Kd.C_of_reads (HA3.out _ (Kd.reads_of_C (Kd.C_below HR1.out HB3.out))))
  clear HA2 HA3 HR0 HR1 HC0 HC1
  by_cases hz : a.length + b.length = 0
  · have H2 := H.out
    rw [if_pos hz] at H2
    obtain rfl := Option.some.inj H2
    clear H2 H
    have e0 : ((a.length : Int) + (b.length : Int) == 0) = true := by rw [beq_iff_eq]; omega
    clear hz
    go_wp2
    go_ret
    exact ⟨_, rfl, Kd.R_nil _ _ _ _ _, HB3.out⟩
  · have H2 := H.out
    rw [if_neg hz] at H2
    clear H
    have e0 : ((a.length : Int) + (b.length : Int) == 0) = false := by rw [beq_eq_false_iff_ne]; omega
    clear hz
    obtain ⟨n, hn⟩ : ∃ n, n = min a.length b.length := ⟨_, rfl⟩
    have HN := Aside0.mk hn
    have hmin : Builtin.min2 (.int .i64 (a.length : Int)) (.int .i64 (b.length : Int)) = pure (.int .i64 (n : Int)) := by rw [min2_int]; congr 2; split <;> omega
    have hn0 : n ≤ a.length := by omega
    have hn1 : n ≤ b.length := by omega
    clear hn
    have H := Aside0.mk H2
    clear H2
    go_wp2_with fail
    refine (alike30_calls (fun i => rd a ((a.length - 1 - i : Nat) : Int) == rd b ((b.length - 1 - i : Nat) : Int)) n _ _ _ (by omega) ⟨fun i hi m => ?_⟩).mono ?_
    · exact edits2_calls i _ _ _ _ _ _ _ a b (blk_cell (w := W3) hb0 0) (blk_cell (w := W3) hb1 0) (Kd.C_drewN HA.out _) (Kd.C_drewN HB.out _) (by omega) (by omega)
    rintro e W4 ⟨p, rfl, hp, hd⟩
    have hps : p = pre a.reverse b.reverse := by rw [HN.out] at hp; exact pre_of_alike_rev hp
    have hp0 : p ≤ a.length := by have := hp.1; omega
    have hp1 : p ≤ b.length := by have := hp.1; omega
    have H2 := H.out
    rw [← hps] at H2
    clear H hp hps HN hmin hn0 hn1
    have H := Aside0.mk (Option.some.inj H2).symm
    clear H2
    replace hb0 := (hd.below.block _ (blk_lt hb0)).trans hb0
    replace hb1 := (hd.below.block _ (blk_lt hb1)).trans hb1
    have HB4 := Aside0.mk (below_step HB3.out hd.below)
    have HA' := Aside0.mk (Kd.C_below HA.out hd.below)
    have HB' := Aside0.mk (Kd.C_below HB.out hd.below)
    clear hd HB3 HA HB hk0 hk1
    have hk0 := blk_cell hb0 0
    have hk1 := blk_cell hb1 0
    simp at hk0 hk1
    have HK0 := Aside0.mk hb0
    have HK1 := Aside0.mk hb1
    clear hb0 hb1
    have HNE5 : ∀ {v5 : Value}, Aside0 (W4.heap[w.heap.size]? = some (.cells #[.slice A2 a.length (c0 - q)] 22 (0, 0))) → Aside0 (∃ b, v5.ownBlock = some b ∧ W4.heap.size ≤ b) → some w.heap.size ≠ v5.ownBlock := by
      rintro v5 h ⟨bb, h1, h2⟩ he
      rw [h1] at he
      injection he with he
      have := blk_lt h.out
      omega
    obtain ⟨d, hd⟩ : ∃ d, d = b.take (b.length - p) := ⟨_, rfl⟩
    have H2 := H.out
    rw [← hd] at H2
    have HD := Aside0.mk hd
    clear H hd
    have H := Aside0.mk H2
    clear H2
    have HCP : ∀ {w6 : World} {v5 : Value} {base : Nat} {ok : Nat → Prop}, Aside0 (Kd.R (Kd.int .i64) 3 w6 base ok v5 (b.take (min b.length (List.replicate ((b.length : Int) - (p : Int)).toNat (0 : Int)).length) ++ (List.replicate ((b.length : Int) - (p : Int)).toNat (0 : Int)).drop (min b.length (List.replicate ((b.length : Int) - (p : Int)).toNat (0 : Int)).length))) → Kd.R (Kd.int .i64) 3 w6 base ok v5 d := by
      intro w6 v5 base ok h
      have h := h.out
      rw [List.length_replicate, show min b.length ((b.length : Int) - (p : Int)).toNat = b.length - p by omega, List.drop_eq_nil_of_le (by rw [List.length_replicate]; omega), List.append_nil, ← HD.out] at h
      exact h
    have HPM : ∀ {w6 : World} {base : Nat} {ok : Nat → Prop} {v : Value}, Aside0 (Kd.R (Kd.int .i64) 3 w6 base ok v d) → Reps (k27.M w6 base (fun _ => True)) k27.sz [(⟨(q : Int), (a.length : Int) - (p : Int), d⟩ : S27)] [.int .i64 q, .int .i64 ((a.length : Int) - (p : Int)), v] := by
      intro w6 base ok v h
      exact Reps.c3 (k27_mkM w6 base _ ⟨(q : Int), (a.length : Int) - (p : Int), d⟩ (Kd.R_mono h.out (fun _ _ => trivial))) (Reps.none _ _)
    have hsz3 : (Try.prog.info? 3).map (·.size) = some 1 := by rw [hi3]; simp [hs3]
    have hnb : ∀ k, W4.heap.size ≤ k → k ≠ w.heap.size + 1 := fun k hk => by have := blk_lt HK1.out; omega
    go_wp2_with (first
      | ((with_reducible refine gate_dst (N := 38) rfl ?_); refine Kd.R_make (Kd.int .i64) (w0 := w) w.heap.size 3 rfl (N := 38) rfl 22 (.tmp 37) (.tmp 37) rfl ((b.length : Int) - (p : Int)) rfl rfl Try.underlying22 (.int .i64 0) 8 info3 rfl (by decide) (by omega) 0 (ok := fun k => k ≠ w.heap.size + 1) (okp := fun _ => False) ?hz (fun _ hk => hk.elim) ?hf ?h0 ?hl HB4.out HB4.out.size ?_; (case hz => rfl); (case hf => exact hnb _ (Nat.le_refl _)); (case h0 => omega); (case hl => omega); intro v5 w5 ho5 hb5 hg5 hn5; have hbk5 := (hg5.block _ (blk_lt HK1.out) (by simp)).trans HK1.out; have hbk5' := (hg5.block _ (blk_lt HK0.out) (by simp)).trans HK0.out; have HO5 := Aside0.mk ho5; have HB5 := Aside0.mk hb5; have HG5 := Aside0.mk hg5; have HN5 := Aside0.mk hn5; clear ho5 hb5 hg5 hn5; have hk5 : w5.cell? ⟨w.heap.size + 1, 0, none⟩ = some (.slice A3 b.length (c1 - q)) := blk_cell hbk5 0; have hk5' : w5.cell? ⟨w.heap.size, 0, none⟩ = some (.slice A2 a.length (c0 - q)) := blk_cell hbk5' 0; have HK5 := Aside0.mk hbk5; have HK5' := Aside0.mk hbk5'; clear hbk5 hbk5')
      | ((with_reducible refine gate_builtin (b := .copy) (xs := #[.tmp 39, .tmp 40]) rfl ?_); refine Kd.R_copy (h1 := fun _ => rfl) (0 : Int) (w0 := w) w.heap.size rfl (.tmp 39) (.tmp 40) 22 22 3 rfl Try.underlying22 hsz3 v5 (List.replicate ((b.length : Int) - (p : Int)).toNat (0 : Int)) b A3 b.length (c1 - q) (fun k => k ≠ w.heap.size + 1) rfl rfl HO5.out (Kd.C_below HB'.out (below_of_grown HG5.out)) HB5.out HB5.out.size ?_; intro w6 ho6 hb6 hg6; have HO6 := Aside0.mk (HCP ⟨ho6⟩); have HB6 := Aside0.mk hb6; have hbk6 := (hg6.block _ (blk_lt HK5'.out) (HNE5 HK0 HN5)).trans HK5'.out; have hk6 : w6.cell? ⟨w.heap.size, 0, none⟩ = some (.slice A2 a.length (c0 - q)) := blk_cell hbk6 0; clear ho6 hb6 hg6 hbk6 hk5 hk5' HO5 HN5; obtain ⟨A7, c7, e7⟩ := Kd.R_slice HO6.out; subst e7)
      | ((with_reducible refine gate_dst (N := 49) rfl ?_); refine Kd.R_lit k27 (w0 := w) w.heap.size 27 rfl (N := 49) rfl (xs := [⟨(q : Int), (a.length : Int) - (p : Int), d⟩]) (inner := [.int .i64 q, .int .i64 ((a.length : Int) - (p : Int)), .slice A7 d.length c7]) (ok := fun _ => True) (okp := fun _ => True) ?hr ?hp (fun _ _ => trivial) trivial HB6.out HB6.out.size (by simp) ?_; (case hr => first | (go_simp; done) | (go_simp; rfl)); (case hp => exact HPM HO6); intro v7 w7 ho7 hb7 hg7 hn7; have HO7 := Aside0.mk ho7; have HB7 := Aside0.mk hb7; clear ho7 hb7 hg7 hn7))
    go_ret
    exact ⟨_, rfl, by rw [H.out]; exact HO7.out, HB7.out⟩

/-- The same, of what is handed back told only how it reads. -/
theorem delta_Edits.calls (A0 : Option Addr) (c0 : Nat) (l0 : List Int) (A1 : Option Addr) (c1 : Nat) (l1 : List Int) (r : List S27) (w : World) (hr0 : Kd.C (Kd.int .i64) w A0 l0.length l0) (hc0 : l0.length ≤ c0) (hr1 : Kd.C (Kd.int .i64) w A1 l1.length l1) (hc1 : l1.length ≤ c1) (h : delta_Edits.f l0 l1 = some r) :
    Calls Try.prog 16 #[.slice A0 l0.length c0, .slice A1 l1.length c1] w fun e w' => ∃ v0_ : Value, e = .returned v0_ ∧ Kd.V k27 27 w' w.heap.size (fun k_ => w.heap.size ≤ k_) v0_ r ∧ Below w.heap.size w w' :=
  (delta_Edits.callsR A0 c0 l0 A1 c1 l1 r w hr0 hc0 hr1 hc1 h).mono fun _ _ ⟨v, he, hv, hb⟩ => ⟨v, he, Kd.R_V (Kd.R_mono (Kd.R_bound hv) (fun _ hk => hk.2.1)), hb⟩
end Go.Proofs.Ytejdjnfcfnppaaa.H
