/- The document's cache: Kept. -/
import Derived.Test.YtaphacgdokhmmaaDoorVHRefGet
set_option linter.unusedVariables false
set_option linter.unusedSimpArgs false
namespace Go.Proofs.YtaphacgdokhmmaaDoor.H
open Go.RowKit Go.Shelf Go.Proofs.YtaphacgdokhmmaaDoorW.PrintWords Go.Proofs.YtaphacgdokhmmaaDoorW.PrintLast Go.Proofs.YtaphacgdokhmmaaDoorW.PrintMore
set_option maxHeartbeats 8000000 in
set_option maxRecDepth 100000 in
theorem rKept_calls (Fr : Nat → Prop) (b c : Nat) (A : Option Addr) (L : List PutR) (W : World) (h : RC Fr W b A c L) (u : ByteArray) (hL : L.length ≤ 100000) :
    Calls Tryd.prog 20 #[.pointer (some ⟨b, 0, none⟩), .string u] W fun e W' => ∃ v, e = .returned v ∧ Kd.R Kd.string 9 W' W.heap.size (fun q => W.heap.size ≤ q) v ((keptRes L u).map (·.1)) ∧ Below W.heap.size W W' := by
  have HX := Aside0.mk h
  have HL := Aside0.mk hL
  have HRK := Aside0.mk (rkept_calls Fr b c A L W h u hL)
  clear h
  obtain ⟨ks, hks⟩ : ∃ ks, ks = upI L u L.length [] := ⟨_, rfl⟩
  obtain ⟨kl, hkl⟩ : ∃ kl, kl = keptRes L u := ⟨_, rfl⟩
  have HKS := Aside0.mk (show ∀ j, j < ks.length → ∃ p : Nat, p < L.length ∧ ks.getD j 0 = (p : Int) ∧ kl[j]? = some ((L.getD p default).2.1, (L.getD p default).2.2.1) by rw [hks, hkl]; exact fun j hj => upI_at L u j hj)
  have HKL := Aside0.mk (show ks.length = kl.length by rw [hks, hkl]; exact upI_size L u)
  have HK4 := Aside0.mk (show ks.length ≤ 4 by rw [hks]; exact upI_len L u _ _ (by simp))
  rw [← hks] at HRK
  rw [← hkl]
  clear hks hkl
  go_enter Tryd.func20, Tryd.ntmps20
  go_upto_region 4 with (go_at_call 29; refine HRK.out.mono ?_; rintro e w8 ⟨v8, rfl, hR8, hB8⟩; have HR8 := Aside0.mk hR8; have HB8 := Aside0.mk hB8; obtain ⟨A8, c8, rfl, _, _⟩ := Kd.R_reads hR8; clear hR8 hB8)
  go_loopg [5, 7] ks.length (fun kq v5 v7 w' => ∃ (i : Nat) (acc : List ByteArray), v7 = .int .i64 i ∧ i ≤ ks.length ∧ acc.length ≤ 4 ∧ Aside0 (kq = ks.length - i) ∧ Aside0 (acc = (kl.take i).map (·.1)) ∧ Aside0 (Below w8.heap.size w8 w') ∧ Aside0 (Kd.R Kd.string 9 w' w8.heap.size (fun q => w8.heap.size ≤ q) v5 acc))
  case atStart => exact ⟨0, [], rfl, Nat.zero_le _, by simp, ⟨rfl⟩, ⟨rfl⟩, ⟨Below.refl _ _⟩, ⟨Kd.R_nil _ _ _ _ _⟩⟩
  case round =>
    obtain ⟨i, acc, rfl, hi, ha, HK, HA, HB, HR⟩ := hrel
    obtain ⟨Av, cv, rfl, _, _⟩ := Kd.R_reads HR.out
    have h4 := HK4.out
    have HBW := Aside0.mk (HB8.out.trans (HB.out.mono HB8.out.size))
    by_cases hlt : i < ks.length
    · have ha4 : acc.length < 4 := by
        have := HA.out
        rw [this, List.length_map, List.length_take]
        omega
      obtain ⟨p, hp, hpz, hkx⟩ := HKS.out i hlt
      obtain ⟨adk, e8, q8⟩ := int_at (Kd.R_reads' HR8.out).2.2 i hlt
      subst e8
      rw [hpz] at q8
      obtain ⟨ad, A2, c2, e1, hpu, hl2, hC2⟩ := put_at (Kd.N_reads' (HX.out.below HB8.out).row).2.2 p hp
      subst e1
      have c0 := (HX.out.below HB8.out).cell
      obtain ⟨x, hx⟩ : ∃ x, x = L.getD p default := ⟨_, rfl⟩
      rw [← hx] at hpu hkx
      clear hx hpz hl2 hC2
      obtain ⟨xu, xi, xd, xg⟩ := x
      obtain ⟨k0, k1, k2, k3⟩ := hpu
      simp only at k0 k1 k2 k3 hkx
      have HKX := Aside0.mk hkx
      clear hkx
      have HXS := Aside0.mk (show ∀ w' : World, Below w8.heap.size w8 w' → w'.cell? ⟨b, 0, none⟩ = some (.slice (some ad) L.length c) ∧ w'.cell? (adk.add i) = some (.int .i64 (p : Int)) ∧ w'.cell? ⟨(ad.add (p * 4)).block, (ad.add (p * 4)).off + 1, none⟩ = some (.string xi) from fun w' hb => ⟨(hb.cell (World.block_lt_of_cell? _ _ c0)).trans c0, (hb.cell (World.block_lt_of_cell? _ _ q8)).trans q8, (hb.cell (p := ⟨(ad.add (p * 4)).block, (ad.add (p * 4)).off + 1, none⟩) (World.block_lt_of_cell? _ _ k1)).trans k1⟩)
      clear k0 k1 k2 k3 c0 q8
      go_upto_region 6 with (fail)
      refine wp_region_noPanic (plain_need [0, 1, 2, 3, 4, 5, 6, 7, 8, 9, 10, 11, 12, 13] (fun W' => W'.cell? ⟨b, 0, none⟩ = some (.slice (some ad) L.length c) ∧ W'.cell? (adk.add i) = some (.int .i64 (p : Int)) ∧ W'.cell? ⟨(ad.add (p * 4)).block, (ad.add (p * 4)).off + 1, none⟩ = some (.string xi)) (by kernel_rfl) ?_)
      obtain ⟨wd, hwd⟩ : ∃ wd, wd = wr.drew := ⟨_, rfl⟩
      rw [← hwd]
      have HRD := Aside0.mk (show Kd.R Kd.string 9 wd w8.heap.size (fun q => w8.heap.size ≤ q) (.slice Av acc.length cv) acc by rw [hwd]; exact Kd.R_below HR.out (Below.refl _ _).drew)
      have HBD := Aside0.mk (show Below w8.heap.size w8 wd by rw [hwd]; exact HB.out.trans (((Below.refl _ _).drew).mono HB.out.size))
      have HS0 := Aside0.mk (HXS.out wd HBD.out)
      clear hwd
      refine wpAnyN_take (i := 0) (v := ?_) rfl (by kernel_rfl) (by kernel_rfl) (by kernel_rfl) (by kernel_rfl) (fun _ _ _ h => h) (.inl ⟨by rfl, ?_⟩) HS0.out ?_
      rotate_left
      · (intro W' hW'; obtain ⟨s0, s1, s2⟩ := hW'; go_simp; try rfl)
      simp only [Act.put, List.setIfInBounds_toArray, List.set_cons_zero, List.set_cons_succ]
      refine wpAnyN_take (i := 1) (v := ?_) rfl (by kernel_rfl) (by kernel_rfl) (by kernel_rfl) (by kernel_rfl) (fun _ _ _ h => h) (.inl ⟨by rfl, ?_⟩) HS0.out ?_
      rotate_left
      · (intro W' hW'; obtain ⟨s0, s1, s2⟩ := hW'; go_simp; try rfl)
      simp only [Act.put, List.setIfInBounds_toArray, List.set_cons_zero, List.set_cons_succ]
      refine wpAnyN_take (i := 2) (v := ?_) rfl (by kernel_rfl) (by kernel_rfl) (by kernel_rfl) (by kernel_rfl) (fun _ _ _ h => h) (.inl ⟨by rfl, ?_⟩) HS0.out ?_
      rotate_left
      · (intro W' hW'; obtain ⟨s0, s1, s2⟩ := hW'; go_simp; try rfl)
      simp only [Act.put, List.setIfInBounds_toArray, List.set_cons_zero, List.set_cons_succ]
      refine wpAnyN_take (i := 3) (v := ?_) rfl (by kernel_rfl) (by kernel_rfl) (by kernel_rfl) (by kernel_rfl) (fun _ _ _ h => h) (.inl ⟨by rfl, ?_⟩) HS0.out ?_
      rotate_left
      · (intro W' hW'; obtain ⟨s0, s1, s2⟩ := hW'; go_simp; try rfl)
      simp only [Act.put, List.setIfInBounds_toArray, List.set_cons_zero, List.set_cons_succ]
      refine wpAnyN_take (i := 4) (v := ?_) rfl (by kernel_rfl) (by kernel_rfl) (by kernel_rfl) (by kernel_rfl) (fun _ _ _ h => h) (.inl ⟨by rfl, ?_⟩) HS0.out ?_
      rotate_left
      · (intro W' hW'; obtain ⟨s0, s1, s2⟩ := hW'; go_simp; try rfl)
      simp only [Act.put, List.setIfInBounds_toArray, List.set_cons_zero, List.set_cons_succ]
      refine wpAnyN_take (i := 5) (v := ?_) rfl (by kernel_rfl) (by kernel_rfl) (by kernel_rfl) (by kernel_rfl) (fun _ _ _ h => h) (.inl ⟨by rfl, ?_⟩) HS0.out ?_
      rotate_left
      · (intro W' hW'; obtain ⟨s0, s1, s2⟩ := hW'; go_simp; try rfl)
      simp only [Act.put, List.setIfInBounds_toArray, List.set_cons_zero, List.set_cons_succ]
      refine wpAnyN_take (i := 6) (v := ?_) rfl (by kernel_rfl) (by kernel_rfl) (by kernel_rfl) (by kernel_rfl) (fun _ _ _ h => h) (.inl ⟨by rfl, ?_⟩) HS0.out ?_
      rotate_left
      · (intro W' hW'; obtain ⟨s0, s1, s2⟩ := hW'; go_simp; try rfl)
      simp only [Act.put, List.setIfInBounds_toArray, List.set_cons_zero, List.set_cons_succ]
      refine wpAnyN_take (i := 7) (v := ?_) rfl (by kernel_rfl) (by kernel_rfl) (by kernel_rfl) (by kernel_rfl) (fun _ _ _ h => h) (.inl ⟨by rfl, ?_⟩) HS0.out ?_
      rotate_left
      · (intro W' hW'; obtain ⟨s0, s1, s2⟩ := hW'; go_simp; try rfl)
      simp only [Act.put, List.setIfInBounds_toArray, List.set_cons_zero, List.set_cons_succ]
      refine wpAnyN_take (i := 8) (v := ?_) rfl (by kernel_rfl) (by kernel_rfl) (by kernel_rfl) (by kernel_rfl) (fun _ _ _ h => h) (.inl ⟨by rfl, ?_⟩) HS0.out ?_
      rotate_left
      · (intro W' hW'; obtain ⟨s0, s1, s2⟩ := hW'; go_simp; try rfl)
      simp only [Act.put, List.setIfInBounds_toArray, List.set_cons_zero, List.set_cons_succ]
      refine wpAnyN_take (i := 9) (v := ?_) rfl (by kernel_rfl) (by kernel_rfl) (by kernel_rfl) (by kernel_rfl) (fun _ _ _ h => h) (.inl ⟨by rfl, ?_⟩) HS0.out ?_
      rotate_left
      · (intro W' hW'; obtain ⟨s0, s1, s2⟩ := hW'; go_simp; try rfl)
      simp only [Act.put, List.setIfInBounds_toArray, List.set_cons_zero, List.set_cons_succ]
      refine wpAnyN_take (i := 10) (v := ?_) rfl (by kernel_rfl) (by kernel_rfl) (by kernel_rfl) (by kernel_rfl) (fun _ _ _ h => h) (.inl ⟨by rfl, ?_⟩) HS0.out ?_
      rotate_left
      · (intro W' hW'; obtain ⟨s0, s1, s2⟩ := hW'; go_simp; try rfl)
      simp only [Act.put, List.setIfInBounds_toArray, List.set_cons_zero, List.set_cons_succ]
      refine wpAnyN_take (i := 11) (v := ?_) rfl (by kernel_rfl) (by kernel_rfl) (by kernel_rfl) (by kernel_rfl) (fun _ _ _ h => h) (.inl ⟨by rfl, ?_⟩) HS0.out ?_
      rotate_left
      · (intro W' hW'; obtain ⟨s0, s1, s2⟩ := hW'; go_simp; try rfl)
      simp only [Act.put, List.setIfInBounds_toArray, List.set_cons_zero, List.set_cons_succ]
      obtain ⟨Y, hY⟩ : ∃ Y, Y = wd.alloc (.cells #[.string xi] 9) := ⟨_, rfl⟩
      have HBY := Aside0.mk (show Below wd.heap.size wd Y by rw [hY]; exact below_alloc (Below.refl _ _) _)
      have HNW := Aside0.mk (show Y.heap[wd.heap.size]? = some (.cells #[.string xi] 9 (0, 0)) by rw [hY]; exact heap_alloc_new _ _)
      have HBY8 := Aside0.mk (HBD.out.trans (HBY.out.mono HBD.out.size))
      have HS1 := Aside0.mk (HXS.out Y HBY8.out)
      have HBN := Aside0.mk (show acc.length + 1 ≤ 5 by omega)
      refine wpAnyN_one (i := 12) rfl (by kernel_rfl) (fun K hK => ?_)
      go_simp
      rw [← hY]
      refine hK.out _ _ (fun _ => HS1.out) (fun _ => ?_)
      clear hK K hY
      try simp only [Act.put, List.setIfInBounds_toArray, List.set_cons_zero, List.set_cons_succ]
      obtain ⟨g, cap, w9, hrun, hg, hgo, hbg, hn, hR9⟩ := append_elem Kd.string 9 56 HRD.out HBD.out.size (fun k hk => Nat.le_trans HBD.out.size hk) Tryd.underlying56 info9 rfl (by decide) (by decide) (by have := HBN.out; omega) HBY.out xi [.string xi] HNW.out rfl rfl (by simp [Value.oneCell'])
      have HR9 := Aside0.mk hR9
      have HB9 := Aside0.mk (HBD.out.grown hg HBD.out.size (fun k hk => own_base HRD.out.2.choose_spec.1 k hk))
      have HS2 := Aside0.mk (HXS.out w9 HB9.out)
      clear hR9 hg hgo hbg hn
      refine wpAnyN_one (i := 13) rfl (by kernel_rfl) (fun K hK => ?_)
      refine wp_append_run (by rfl) (.tmp 17) (.tmp 29) 56 rfl hrun ?_
      refine hK.out _ _ (fun _ => HS2.out) (fun _ => ?_)
      clear hK K hrun
      try simp only [Act.put, List.setIfInBounds_toArray, List.set_cons_zero, List.set_cons_succ]
      refine wpAnyN_one (i := 14) rfl (by kernel_rfl) (fun K hK => ?_)
      go_simp
      refine hK.out _ _ (fun h => Bool.noConfusion (show false = true from h)) (fun _ => ?_)
      clear hK K
      try simp only [Act.put, List.setIfInBounds_toArray, List.set_cons_zero, List.set_cons_succ]
      refine wpAnyN_done (by kernel_rfl) (NoPanic.normal ?_) _
      go_wp2_with fail
      go_roundg (ks.length - (i + 1))
      case measure => have := HK.out; omega
      case rel => exact ⟨i + 1, acc ++ [xi], by go_num, by omega, by rw [List.length_append, List.length_singleton]; omega, ⟨rfl⟩, ⟨by rw [HA.out, List.take_add_one, HKX.out]; simp⟩, HB9, HR9⟩
    · have hie : i = ks.length := by omega
      subst hie
      have hfin : acc = kl.map (·.1) := by rw [HA.out, List.take_of_length_le (by rw [HKL.out]; exact Nat.le_refl _)]
      have HFIN := Aside0.mk hfin
      clear hfin
      go_wp2
      go_ret
      rw [← HFIN.out]
      exact ⟨_, rfl, Kd.R_mono (Kd.R_lower HR.out HB8.out.size) (fun q hq => Nat.le_trans HB8.out.size hq), HBW.out⟩
end Go.Proofs.YtaphacgdokhmmaaDoor.H
