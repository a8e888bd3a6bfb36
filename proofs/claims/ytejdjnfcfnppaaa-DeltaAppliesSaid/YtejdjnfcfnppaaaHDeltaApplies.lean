/- DeltaApplies, walked: it answers true, given what the parts answer. -/
import Derived.Test.YtejdjnfcfnppaaaHDeltaRoom
import Derived.Test.YtejdjnfcfnppaaaHDeltaApply
import Derived.Test.YtejdjnfcfnppaaaHxglossatorlaw24total
import Derived.Test.YtejdjnfcfnppaaaHxglossatorref24Apply
import Derived.Deep.LoopGhost
import Derived.Deep.RegionHeld3
set_option linter.unusedVariables false
set_option linter.unusedSimpArgs false
namespace Go.Proofs.Ytejdjnfcfnppaaa.H
open Go.RowKit Go.Proofs.YtejdjnfcfnppaaaW.PrintWords Go.Proofs.YtejdjnfcfnppaaaW.PrintLast Go.Proofs.YtejdjnfcfnppaaaW.PrintMore

/-- All that DeltaApplies' walk asks of lists of a fair size. -/
def AppliesFair (k : Nat) (a : List Int) (l : List S27) : Prop := ∃ (r1 : List Int) (r2 : Int), glossatorref24_Apply.f k a l = some (r1, r2) ∧ delta_Apply.f a l = some (r1, r2) ∧ glossatorref24_Same.f k r1 r1 = some true ∧ glossatorref24_Same.f k a a = some true ∧ (∀ s ∈ l, glossatorref24_Same.f k s.f2 s.f2 = some true ∧ s.f2.length ≤ 60000) ∧ a.length ≤ 60000
set_option maxHeartbeats 8000000 in
set_option maxRecDepth 100000 in
theorem applies_calls (k : Nat) (A0 : Option Addr) (c0 : Nat) (l0 : List Int) (A1 : Option Addr) (c1 : Nat) (l1 : List S27) (w : World) (hr0 : Kd.C (Kd.int .i64) w A0 l0.length l0) (hc0 : l0.length ≤ c0) (hr1 : Kd.C k27 w A1 l1.length l1) (hc1 : l1.length ≤ c1)
    (h : l1.length ≤ 2000 → ∃ t : Int, glossatorlaw24_total.f k l0 [] l1 = some t ∧ (¬ t > 50000 → AppliesFair k l0 l1)) :
    Calls Try.prog 3 #[.slice A0 l0.length c0, .slice A1 l1.length c1] w fun e w' => e = .returned (.bool true) ∧ Below w.heap.size w w' := by
  have HR0 := Aside0.mk hr0
  have HC0 := Aside0.mk hc0
  have HR1 := Aside0.mk hr1
  have HC1 := Aside0.mk hc1
  clear hr0 hc0 hr1 hc1
  by_cases hbig : l1.length ≤ 2000
  case neg =>
    have e1 : decide ((2000 : Int) < (l1.length : Int)) = true := decide_eq_true (by omega)
    clear h hbig
    go_enter Try.func3, Try.ntmps3
    go_wp2
    go_ret
    exact ⟨rfl, Below.refl _ _⟩
  obtain ⟨t, ht, hf⟩ := h hbig
  have e1 : decide ((2000 : Int) < (l1.length : Int)) = false := decide_eq_false (by omega)
  have HT := Aside0.mk ht
  clear ht h
  by_cases hb2 : t > 50000
  · have e2 : decide ((50000 : Int) < t) = true := decide_eq_true hb2
    clear hf hbig hb2
    go_enter Try.func3, Try.ntmps3
    go_wp2_with fail
    refine (glossatorlaw24_total.calls k _ _ l0 none 0 [] _ _ l1 _ w HR0.out HC0.out (Kd.C_nil _ _) (Nat.le_refl _) HR1.out HC1.out HT.out).mono ?_
    rintro e w' ⟨rfl, ⟨nd, rfl⟩⟩
    go_wp2
    go_ret
    exact ⟨rfl, pw_below_drewN (Below.refl _ _) _⟩
  have e2 : decide ((50000 : Int) < t) = false := decide_eq_false hb2
  obtain ⟨r1, r2, hr1, hr2, hr3, hr4, hr5, hr6⟩ := hf hb2
  have H1 := Aside0.mk hr1
  have H2 := Aside0.mk hr2
  have H3 := Aside0.mk hr3
  have H4 := Aside0.mk hr4
  have H5 := Aside0.mk hr5
  have H6 := Aside0.mk hr6
  have HL := Aside0.mk hbig
  clear hr1 hr2 hr3 hr4 hr5 hr6 hf hbig hb2
  go_enter Try.func3, Try.ntmps3
  go_wp2_with fail
  refine (glossatorlaw24_total.calls k _ _ l0 none 0 [] _ _ l1 _ w HR0.out HC0.out (Kd.C_nil _ _) (Nat.le_refl _) HR1.out HC1.out HT.out).mono ?_
  rintro e w' ⟨rfl, ⟨nd, rfl⟩⟩
  go_wp2_with fail
  refine (lent_calls _ _ l0 _ (Kd.C_drewN HR0.out _) HC0.out H6.out).mono ?_
  rintro e W1 ⟨A5, c5, rfl, ho2, hb2⟩
  have HX := Aside0.mk (C_room ho2).1
  have HXc := Aside0.mk (C_room ho2).2
  have HB1 := Aside0.mk (below_step (pw_below_drewN (Below.refl _ _) _) hb2 : Below w.heap.size w W1)
  clear ho2 hb2
  go_wp2
  obtain ⟨wx, hwx⟩ : ∃ wx, wx = W1 := ⟨_, rfl⟩
  subst hwx
  go_loopg [6, 7] l1.length (fun kq v6 v7 w' => ∃ i : Nat, v7 = .int .i64 i ∧ Aside0 (kq = l1.length - i) ∧ i ≤ l1.length ∧ Aside0 (Kd.R kL 27 w' wx.heap.size (fun _ => True) v6 (l1.take i)) ∧ Aside0 (Below wx.heap.size wx w'))
  case atStart => exact ⟨0, rfl, ⟨rfl⟩, Nat.zero_le _, ⟨Kd.R_nil _ _ _ _ _⟩, ⟨Below.refl _ _⟩⟩
  case round =>
    obtain ⟨i, rfl, HK, hi, HO, HB⟩ := hrel
    by_cases hlt : i < l1.length
    · have d1 : decide ((i : Int) < (l1.length : Int)) = true := decide_eq_true (by omega)
      obtain ⟨ad, A2, c2, e, g0, g1, g2, gl, gi⟩ := at_T27 HR1.out (i : Int) (by omega) (by omega)
      subst e
      rw [Int.toNat_natCast] at g0 g1 g2
      have G0 := Aside0.mk g0
      have G1 := Aside0.mk g1
      have G2 := Aside0.mk g2
      replace g0 := ((below_step HB1.out HB.out).cell (World.block_lt_of_cell? w _ g0)).trans g0
      replace g1 := ((below_step HB1.out HB.out).cell (World.block_lt_of_cell? w _ g1)).trans g1
      replace g2 := ((below_step HB1.out HB.out).cell (World.block_lt_of_cell? w _ g2)).trans g2
      have GI := Aside0.mk gi
      have GL := Aside0.mk gl
      clear gi gl
      obtain ⟨s, hs⟩ : ∃ s, s = rd_T27 l1 (i : Int) := ⟨_, rfl⟩
      rw [← hs] at g0 g1 g2 G0 G1 G2 GI GL
      have hse : l1[i]'hlt = s := by rw [hs]; simp [rd_T27, List.getD_eq_getElem?_getD, List.getElem?_eq_getElem hlt]
      have HS := Aside0.mk hse
      have hsz := H5.out s (by rw [← hse]; exact List.getElem_mem hlt)
      have HSZ := Aside0.mk hsz.2
      have hu := Try.underlying27
      clear hs hse hsz
      go_wp2_with fail
      go_region_held3 (fun w' => w'.cell? (ad.add (i * 3)) = some (.int .i64 s.f0) ∧ w'.cell? ⟨(ad.add (i * 3)).block, (ad.add (i * 3)).off + 1, none⟩ = some (.int .i64 s.f1) ∧ w'.cell? ⟨(ad.add (i * 3)).block, (ad.add (i * 3)).off + 2, none⟩ = some (.slice A2 s.f2.length c2)) (first | exact ⟨g0, g1, g2⟩ | exact ⟨q0, q1, q2⟩ | exact ⟨k0, k1, k2⟩ | go_keep) (first | (go_at_call 10; refine (lent_calls A2 c2 s.f2 _ (Kd.C_drewN (Kd.C_below GI.out (below_step HB1.out HB.out)) _) GL.out HSZ.out).mono ?_; rintro e W2 ⟨A7, c7, rfl, ho7, hb7⟩; have q0 : W2.cell? (ad.add (i * 3)) = some (.int .i64 s.f0) := (hb7.cell (World.block_lt_of_cell? _ _ g0)).trans g0; have q1 : W2.cell? ⟨(ad.add (i * 3)).block, (ad.add (i * 3)).off + 1, none⟩ = some (.int .i64 s.f1) := (hb7.cell (World.block_lt_of_cell? _ _ g1)).trans g1; have q2 : W2.cell? ⟨(ad.add (i * 3)).block, (ad.add (i * 3)).off + 2, none⟩ = some (.slice A2 s.f2.length c2) := (hb7.cell (World.block_lt_of_cell? _ _ g2)).trans g2; have HO7 : Kd.R kL 27 W2 wx.heap.size (fun _ => True) u6 (l1.take i) := Kd.R_below (by (with_reducible repeat (first | apply Kd.R_alloc | apply Kd.R_drewN | apply Kd.R_drew)); exact HO.out) hb7; have HB7 : Below wx.heap.size wx W2 := below_step (pw_below_drewN HB.out 1) hb7; have HD7 := Aside0.mk (Kd.R_mono (Kd.R_bound ho7) (fun k hk => hk.2.1)); have HBs : wr.heap.size ≤ W2.heap.size := hb7.size) | (refine Kd.R_append_step kL (w0 := wx) wx.heap.size ?hw (.tmp 33) (.tmp 51) 23 27 (.agg #[(.int .i64 0), (.int .i64 0), (.slice none 0 0)]) 40 rfl Try.underlying23 info27 rfl (by decide) (by omega) u6 (l1.take i) s [.int .i64 s.f0, .int .i64 s.f1, .slice A7 s.f2.length c7] (fun _ => True) (fun k => wr.heap.size ≤ k) rfl rfl ?aP ?aK (fun _ _ => trivial) HO7 HB7 HB7.size ?aL ?_; (case hw => first | rfl | (go_simp; done)); (case aP => exact kL_mkM _ _ _ s (Kd.R_lower HD7.out HB.out.size)); (case aK => exact fun k hk => ⟨trivial, fun he => by have := Kd.R_lt HO.out k he.symm; omega⟩); (case aL => have := HL.out; rw [List.length_take]; omega); intro v8 w8 ho8 hb8 hg8 hat8; have k0 := ((below_step HB1.out hb8).cell (World.block_lt_of_cell? w _ G0.out)).trans G0.out; have k1 := ((below_step HB1.out hb8).cell (World.block_lt_of_cell? w _ G1.out)).trans G1.out; have k2 := ((below_step HB1.out hb8).cell (World.block_lt_of_cell? w _ G2.out)).trans G2.out; have HO8 := Aside0.mk ho8; have HB8 := Aside0.mk hb8; clear ho8 hb8 hg8 hat8))
      all_goals go_wp2
      go_roundg (l1.length - (i + 1))
      case measure => have := HK.out; omega
      case rel =>
        have hL := HL.out
        refine ⟨i + 1, by rw [show wrap64 ((i : Int) + 1) = ((i + 1 : Nat) : Int) by unfold wrap64; omega], ⟨rfl⟩, by omega, ⟨?_⟩, HB8⟩
        have e : l1.take (i + 1) = l1.take i ++ [s] := by rw [List.take_succ_eq_append_getElem hlt, HS.out]
        rw [e]
        exact HO8.out
    · obtain rfl : i = l1.length := by omega
      have d1 : decide ((l1.length : Int) < (l1.length : Int)) = false := decide_eq_false (by omega)
      rw [List.take_length] at HO
      obtain ⟨A6, c6, rfl, hc6, hM⟩ := Kd.R_reads HO.out
      have HM := Aside0.mk hM
      have HMc := Aside0.mk hc6
      clear hM hc6 HO HK hi hlt
      obtain ⟨wm, hwm⟩ : ∃ wm, wm = wr := ⟨_, rfl⟩
      subst hwm
      have HX1 := Aside0.mk (Kd.C_below HX.out HB.out)
      have HB2 := Aside0.mk (below_step HB1.out HB.out)
      clear HX HB1 HB
      go_wp2_with fail
      refine (glossatorref24_Apply.calls k _ _ l0 _ _ l1 r1 r2 _ (Kd.C_below HR0.out HB2.out) HC0.out (Kd.C_below HR1.out HB2.out) HC1.out H1.out).mono ?_
      rintro e W3 ⟨v8, rfl, ho8, hb8⟩
      obtain ⟨A8, c8, rfl, hc8, hr8⟩ := Kd.R_reads ho8
      have HW := Aside0.mk hr8
      have HWc := Aside0.mk hc8
      have HX3 := Aside0.mk (Kd.C_below HX1.out hb8)
      have HM3 := Aside0.mk (Kd.C_below HM.out hb8)
      have HB3 := Aside0.mk (below_step HB2.out hb8)
      clear HX1 HM HB2 ho8 hb8 hc8 hr8
      go_wp2
      go_loopg [10] 2 (fun kq v10 w' => ∃ i : Nat, v10 = .int .i64 i ∧ Aside0 (kq = 2 - i) ∧ i ≤ 2 ∧ Aside0 (Below W3.heap.size W3 w'))
      case atStart => exact ⟨0, rfl, ⟨rfl⟩, by omega, ⟨Below.refl _ _⟩⟩
      case round =>
        obtain ⟨i, rfl, HK, hi, HB⟩ := hrel
        obtain ⟨wo, hwo⟩ : ∃ wo, wo = wr := ⟨_, rfl⟩
        subst hwo
        by_cases hlt : i < 2
        · have d2 : decide ((i : Int) < 2) = true := decide_eq_true (by omega)
          have HX := Aside0.mk (Kd.C_below HX3.out HB.out)
          have HM := Aside0.mk (Kd.C_below HM3.out HB.out)
          have HW4 := Aside0.mk (Kd.C_below HW.out HB.out)
          have HB4 := Aside0.mk (below_step HB3.out HB.out)
          clear HX3 HM3 HW HB3
          go_wp2_with fail
          refine (delta_Apply.callsR _ _ l0 _ _ l1 r1 r2 _ (C_front HX.out) (by have := HXc.out; omega) (kL_k27 HM.out) HMc.out H2.out).mono ?_
          rintro e W5 ⟨v11, rfl, ho5, hb5⟩
          obtain ⟨A9, c9, rfl, hc9, hf9⟩ := ho5.V
          have HF := Aside0.mk (Kd.F_now hf9)
          have HFc := Aside0.mk hc9
          have hrow : Rows3 wo.heap.size W5 A9 c9 ∧ c9 ≤ 9223372036854775807 := by
            rcases ho5 with h | ⟨A', c', e, h⟩
            · exact Rows3.of_R h
            · injection e with e1 e2 e3
              subst e1 e3
              obtain ⟨h1, h2⟩ := Rows3.of_R h
              have hle := (Kd.R_reads' h).2.1
              refine ⟨?_, by omega⟩
              rcases h1 with h1 | ⟨g, cur, h3, h4, h5, h6⟩
              · exact .inl (by omega)
              · exact .inr ⟨g, cur, h3, h4, h5, by omega⟩
          have hcap := hrow.2
          have HRo := Aside0.mk hrow.1
          have HS5 := Aside0.mk hb5
          clear ho5 hb5 hf9 hc9 hrow
          go_wp2_with fail
          refine (glossatorref24_Same.calls k _ _ r1 _ _ r1 true _ HF.out HFc.out (Kd.C_below HW4.out HS5.out) HWc.out H3.out).mono ?_
          rintro e w' ⟨rfl, ⟨nd1, rfl⟩⟩
          have er2 : (r2 != r2) = false := by simp
          go_wp2_with fail
          refine (kept_calls k _ _ _ _ l0 _ (Kd.C_drewN (Kd.C_below HX.out HS5.out) _) HXc.out (Kd.C_drewN (Kd.C_below HR0.out (below_step HB4.out HS5.out)) _) HC0.out H6.out H4.out).mono ?_
          rintro e w' ⟨rfl, ⟨nd2, rfl⟩⟩
          obtain ⟨i3, hi3, _, hs3, _⟩ := info_parts info3
          have hcut := cut_over (P := Try.prog) 22 3 .i64 Try.underlying22 hi3 hs3 A9 r1.length c9 (c9 : Int) (by omega) (by omega)
          rw [Int.toNat_natCast] at hcut
          have HRn := Aside0.mk (show Rows3 wo.heap.size (W5.drewN (nd1 + nd2)) A9 c9 from HRo.out.below (pw_below_drewN (Below.refl _ _) _))
          have HS6 := Aside0.mk (show Below wo.heap.size wo (W5.drewN (nd1 + nd2)) from pw_below_drewN HS5.out _)
          clear HRo HS5 HF
          go_wp2
          go_loopg [14] c9 (fun kq v14 w' => ∃ m : Nat, v14 = .int .i64 m ∧ Aside0 (kq = c9 - m) ∧ m ≤ c9 ∧ Aside0 (Rows3 wo.heap.size w' A9 c9) ∧ Aside0 (Below wo.heap.size wo w'))
          case atStart => exact ⟨0, rfl, ⟨rfl⟩, Nat.zero_le _, HRn, HS6⟩
          case round =>
            clear HRn HS6
            obtain ⟨m, rfl, HJ, hm, HRo, HS⟩ := hrel
            by_cases hml : m < c9
            · have d3 : decide ((m : Int) < (c9 : Int)) = true := decide_eq_true (by omega)
              obtain ⟨g, cur, rfl, hg, hblk, hsz⟩ : ∃ g cur, A9 = some ⟨g, 0, none⟩ ∧ wo.heap.size ≤ g ∧ wr.heap[g]? = some (.cells cur 3 (0, 0)) ∧ c9 ≤ cur.size := by
                rcases HRo.out with h | h
                · omega
                · exact h
              have hk : wr.cell? ⟨g, m, none⟩ = some (cur[m]'(by omega)) := by rw [blk_cell hblk m, Array.getElem?_eq_getElem]
              have hf := blk_frozen hblk m
              have HBK := Aside0.mk hblk
              clear hblk HRo
              go_wp2
              go_roundg (c9 - (m + 1))
              case measure => have := HJ.out; omega
              case rel => exact ⟨m + 1, by go_num, ⟨rfl⟩, by omega, ⟨.inr ⟨g, _, rfl, hg, blk_set HBK.out m _, by rw [Array.size_setIfInBounds]; exact hsz⟩⟩, ⟨HS.out.setCell hg _⟩⟩
            · have d3 : decide ((m : Int) < (c9 : Int)) = false := decide_eq_false (by omega)
              clear HRo
              go_wp2
              obtain ⟨ws, hws⟩ : ∃ ws, ws = wr := ⟨_, rfl⟩
              subst hws
              go_loopg [15] l1.length (fun kq v15 w' => ∃ j : Nat, v15 = .int .i64 j ∧ Aside0 (kq = l1.length - j) ∧ j ≤ l1.length ∧ Aside0 (Below wo.heap.size wo w'))
              case atStart => exact ⟨0, rfl, ⟨rfl⟩, Nat.zero_le _, HS⟩
              case round =>
                clear HS HJ
                obtain ⟨j, rfl, HJ, hj, HS⟩ := hrel
                by_cases hjl : j < l1.length
                · have d4 : decide ((j : Int) < (l1.length : Int)) = true := decide_eq_true (by omega)
                  obtain ⟨ad1, A2, c2, e1, g0, g1, g2, gl, gi⟩ := at_T27 (Kd.C_below HR1.out (below_step HB4.out HS.out)) (j : Int) (by omega) (by omega)
                  obtain ⟨ad6, A7, c7, e6, k0, k1, k2, kl, ki⟩ := at_L (Kd.C_below HM.out HS.out) (j : Int) (by omega) (by omega)
                  subst e1 e6
                  rw [Int.toNat_natCast] at g0 g1 g2 k0 k1 k2
                  have GI := Aside0.mk gi
                  have GL := Aside0.mk gl
                  have KI := Aside0.mk ki
                  have KL := Aside0.mk kl
                  clear gi gl ki kl
                  obtain ⟨s, hs⟩ : ∃ s, s = rd_T27 l1 (j : Int) := ⟨_, rfl⟩
                  rw [← hs] at g0 g1 g2 GI GL k0 k1 k2 KI KL
                  have hse : l1[j]'hjl = s := by rw [hs]; simp [rd_T27, List.getD_eq_getElem?_getD, List.getElem?_eq_getElem hjl]
                  have HSE := Aside0.mk (H5.out s (by rw [← hse]; exact List.getElem_mem hjl))
                  have hu := Try.underlying27
                  have es0 : (s.f0 != s.f0) = false := by simp
                  have es1 : (s.f1 != s.f1) = false := by simp
                  clear hs hse
                  go_wp2
                  go_quiet (first | (go_at_call 14; (with_reducible refine (kept_calls k A7 c7 A2 c2 s.f2 _ (Kd.C_drewN KI.out _) KL.out (Kd.C_drewN GI.out _) GL.out HSE.out.2 HSE.out.1).mono ?_); rintro e w' ⟨rfl, ⟨nd, rfl⟩⟩; (try first | exact ⟨rfl, _, World.drewN_drewN _ _ _⟩ | exact ⟨rfl, _, Eq.trans (World.drewN_drewN _ _ _) (congrArg (World.drewN _) (Nat.add_assoc _ _ _))⟩)))
                  go_wp2
                  go_roundg (l1.length - (j + 1))
                  case measure => have := HJ.out; omega
                  case rel =>
                    have hL := HL.out
                    exact ⟨j + 1, by first | go_num | rw [show wrap64 ((j : Int) + 1) = ((j + 1 : Nat) : Int) by unfold wrap64; omega], ⟨rfl⟩, by omega, ⟨pw_below_drewN HS.out _⟩⟩
                · have d4 : decide ((j : Int) < (l1.length : Int)) = false := decide_eq_false (by omega)
                  go_wp2
                  go_roundg (2 - (i + 1))
                  case measure => have := HK.out; omega
                  case rel => exact ⟨i + 1, by go_num, ⟨rfl⟩, by omega, ⟨below_step HB.out HS.out⟩⟩
        · obtain rfl : i = 2 := by omega
          have d2 : decide (((2 : Nat) : Int) < 2) = false := rfl
          go_wp2_with fail
          refine (kept_calls k _ _ _ _ l0 _ (Kd.C_below HX3.out HB.out) HXc.out (Kd.C_below HR0.out (below_step HB3.out HB.out)) HC0.out H6.out H4.out).mono ?_
          rintro e w' ⟨rfl, ⟨nd2, rfl⟩⟩
          go_wp2
          go_ret
          exact ⟨rfl, pw_below_drewN (below_step HB3.out HB.out) _⟩
end Go.Proofs.Ytejdjnfcfnppaaa.H
