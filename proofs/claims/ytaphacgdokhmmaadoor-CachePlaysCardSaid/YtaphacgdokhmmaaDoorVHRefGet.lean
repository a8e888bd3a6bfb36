/- The document's cache: Get. -/
import Derived.Test.YtaphacgdokhmmaaDoorVHRefKept
import Derived.Test.YtaphacgdokhmmaaDoorVHCacheLast
set_option linter.unusedVariables false
set_option linter.unusedSimpArgs false
namespace Go.Proofs.YtaphacgdokhmmaaDoor.H
open Go.RowKit Go.Shelf Go.Proofs.YtaphacgdokhmmaaDoorW.PrintWords Go.Proofs.YtaphacgdokhmmaaDoorW.PrintLast Go.Proofs.YtaphacgdokhmmaaDoorW.PrintMore
theorem drop_snoc {α : Type} (F : List α) (x : α) (k : Nat) : (F ++ [x]).drop ((F ++ [x]).length - (k + 1)) = F.drop (F.length - k) ++ [x] := by
  rw [List.length_append, List.length_singleton, show F.length + 1 - (k + 1) = F.length - k by omega, List.drop_append_of_le_length (by omega)]
theorem upI_kept (L : List PutR) (u : ByteArray) : ∀ (i : Nat) (acc : List Int), i ≤ L.length → acc.length ≤ 4 → (upI L u i acc).map (fun z => L.getD z.toNat default) = ((L.take i).filter (live u)).drop (((L.take i).filter (live u)).length - (4 - acc.length)) ++ acc.map (fun z => L.getD z.toNat default)
  | 0, acc, _, _ => by simp [upI]
  | i + 1, acc, hi, ha => by
    have hx : L[i]? = some (L.getD i default) := by rw [List.getD_eq_getElem?_getD, List.getElem?_eq_getElem (by omega)]; rfl
    rw [upI_succ, List.take_add_one, hx]
    simp only [Option.toList_some, List.filter_append]
    by_cases h4 : acc.length < 4
    · rw [if_pos h4]
      by_cases hl : live u (L.getD i default) = true
      · rw [if_pos hl, upI_kept L u i _ (by omega) (by simp only [List.length_cons]; omega)]
        rw [show List.filter (live u) [L.getD i default] = [L.getD i default] by rw [List.filter_cons, if_pos hl]; rfl, show 4 - acc.length = (4 - ((i : Int) :: acc).length) + 1 by simp only [List.length_cons]; omega, drop_snoc]
        simp [List.append_assoc]
      · rw [if_neg hl, upI_kept L u i acc (by omega) ha]
        rw [show List.filter (live u) [L.getD i default] = [] by rw [List.filter_cons, if_neg hl]; rfl, List.append_nil]
    · rw [if_neg h4, show 4 - acc.length = 0 by omega]
      simp
theorem upI_in (L : List PutR) (u : ByteArray) : ∀ (i : Nat) (acc : List Int), i ≤ L.length → (∀ z ∈ acc, 0 ≤ z ∧ z < (L.length : Int)) → ∀ z ∈ upI L u i acc, 0 ≤ z ∧ z < (L.length : Int)
  | 0, acc, _, h => h
  | i + 1, acc, hi, h => by
    rw [upI_succ]
    split
    · refine upI_in L u i _ (by omega) ?_
      split
      · intro z hz
        rcases List.mem_cons.1 hz with rfl | hz
        · omega
        · exact h z hz
      · exact h
    · exact h
def keptRes (L : List PutR) (u : ByteArray) : List Res := (keptR L u).map (fun x => (x.2.1, x.2.2.1))
theorem upI_at (L : List PutR) (u : ByteArray) (j : Nat) (hj : j < (upI L u L.length []).length) :
    ∃ p : Nat, p < L.length ∧ (upI L u L.length []).getD j 0 = (p : Int) ∧ (keptRes L u)[j]? = some ((L.getD p default).2.1, (L.getD p default).2.2.1) := by
  have hk := upI_kept L u L.length [] (Nat.le_refl _) (by simp)
  rw [List.take_length, List.map_nil, List.append_nil] at hk
  have hk : (upI L u L.length []).map (fun z => L.getD z.toNat default) = keptR L u := hk
  have hz := upI_in L u L.length [] (Nat.le_refl _) (by simp) _ (List.getElem_mem hj)
  obtain ⟨p, hp⟩ : ∃ p : Nat, (upI L u L.length [])[j] = (p : Int) := ⟨_, (Int.toNat_of_nonneg hz.1).symm⟩
  refine ⟨p, by rw [hp] at hz; omega, by rw [List.getD_eq_getElem?_getD, List.getElem?_eq_getElem hj, Option.getD_some, hp], ?_⟩
  unfold keptRes
  rw [← hk, List.map_map, List.getElem?_map, List.getElem?_eq_getElem hj, hp]
  rfl
theorem upI_size (L : List PutR) (u : ByteArray) : (upI L u L.length []).length = (keptRes L u).length := by
  have hk := upI_kept L u L.length [] (Nat.le_refl _) (by simp)
  rw [List.take_length, List.map_nil, List.append_nil] at hk
  have := congrArg List.length hk
  rw [List.length_map] at this
  rw [this]
  unfold keptRes keptR
  rw [List.length_map]
  rfl
theorem int_at {W : World} {A : Option Addr} {l : List Int} (h : Kd.C (Kd.int .i64) W A l.length l) (i : Nat) (hi : i < l.length) : ∃ ad, A = some ad ∧ W.cell? (ad.add i) = some (.int .i64 (l.getD i 0)) := by
  obtain ⟨ad, c, e, _, hK, hc⟩ := Kd.C_get h 0 (i : Int) (by omega) (by omega)
  rw [Int.toNat_natCast] at hK hc
  obtain rfl : c = [.int .i64 (l.getD i 0)] := hK
  exact ⟨ad, e, by simpa [show (Kd.int .i64).sz = 1 from rfl] using hc 0 _ rfl⟩
set_option maxHeartbeats 8000000 in
set_option maxRecDepth 100000 in
theorem rget_calls (Fr : Nat → Prop) (b c : Nat) (A : Option Addr) (L : List PutR) (V W : World) (h0 : RC Fr V b A c L) (hVW : Below V.heap.size V W) (u id : ByteArray) (hL : L.length ≤ 100000) :
    Calls Tryd.prog 18 #[.pointer (some ⟨b, 0, none⟩), .string u, .string id] W fun e W' => ∃ A2 c2, e = .returned (.tuple #[.slice A2 ((fnd (keptRes L u) id).elim [] (·.2)).length c2, .bool (fnd (keptRes L u) id).isSome]) ∧ ((fnd (keptRes L u) id).elim [] (·.2)).length ≤ c2 ∧ Kd.C (Kd.int .i64) V A2 ((fnd (keptRes L u) id).elim [] (·.2)).length ((fnd (keptRes L u) id).elim [] (·.2)) ∧ Below W.heap.size W W' := by
  have h := h0.below hVW
  have HV := Aside0.mk h0
  have HVW := Aside0.mk hVW
  clear h0 hVW
  have HX := Aside0.mk h
  have HL := Aside0.mk hL
  have HRK := Aside0.mk (rkept_calls Fr b c A L W h u hL)
  clear h
  obtain ⟨ks, hks⟩ : ∃ ks, ks = upI L u L.length [] := ⟨_, rfl⟩
  obtain ⟨kl, hkl⟩ : ∃ kl, kl = keptRes L u := ⟨_, rfl⟩
  have HKS := Aside0.mk (show ∀ j, j < ks.length → ∃ p : Nat, p < L.length ∧ ks.getD j 0 = (p : Int) ∧ kl[j]? = some ((L.getD p default).2.1, (L.getD p default).2.2.1) by rw [hks, hkl]; exact fun j hj => upI_at L u j hj)
  have HKL := Aside0.mk (show ks.length = kl.length by rw [hks, hkl]; exact upI_size L u)
  have HK4 := Aside0.mk (show ks.length ≤ 4 by rw [hks]; exact upI_len L u _ _ (by simp))
  rw [← hks] at HRK
  rw [← hkl]
  clear hks hkl
  go_enter Tryd.func18, Tryd.ntmps18
  go_upto_region 3 with (go_at_call 29; refine HRK.out.mono ?_; rintro e w8 ⟨v8, rfl, hR8, hB8⟩; have HR8 := Aside0.mk hR8; have HB8 := Aside0.mk hB8; obtain ⟨A8, c8, rfl, _, _⟩ := Kd.R_reads hR8; clear hR8 hB8)
  go_loopg [9] ks.length (fun kq v9 w' => ∃ i : Nat, v9 = .int .i64 i ∧ i ≤ ks.length ∧ Aside0 (kq = ks.length - i) ∧ Aside0 (Below w8.heap.size w8 w') ∧ Aside0 (∀ j, j < i → ∀ x, kl[j]? = some x → (x.1.toList == id.toList) = false))
  case atStart => exact ⟨0, rfl, Nat.zero_le _, ⟨rfl⟩, ⟨Below.refl _ _⟩, ⟨fun j hj => absurd hj (Nat.not_lt_zero _)⟩⟩
  case round =>
    obtain ⟨i, rfl, hi, HK, HB, HN⟩ := hrel
    have h4 := HK4.out
    have HBW := Aside0.mk (HB8.out.trans (HB.out.mono HB8.out.size))
    by_cases hlt : i < ks.length
    · obtain ⟨p, hp, hpz, hkx⟩ := HKS.out i hlt
      obtain ⟨adk, e8, q8⟩ := int_at (Kd.C_below (Kd.R_reads' HR8.out).2.2 HB.out) i hlt
      subst e8
      rw [hpz] at q8
      obtain ⟨ad, A2, c2, e1, hpu, hl2, hC2⟩ := put_at (Kd.N_reads' HV.out.row).2.2 p hp
      subst e1
      have hpu := hpu.below (HVW.out.trans (HBW.out.mono HVW.out.size))
      have c0 := (HX.out.below HBW.out).cell
      obtain ⟨x, hx⟩ : ∃ x, x = L.getD p default := ⟨_, rfl⟩
      rw [← hx] at hpu hl2 hC2 hkx
      clear hx hpz
      obtain ⟨xu, xi, xd, xg⟩ := x
      obtain ⟨k0, k1, k2, k3⟩ := hpu
      simp only at k0 k1 k2 k3 hl2 hC2 hkx
      have HKX := Aside0.mk hkx
      have HL2 := Aside0.mk hl2
      have HC2 := Aside0.mk hC2
      clear hkx hl2 hC2
      go_upto_region 5 with (fail)
      have HS0 := Aside0.mk (show wr.drew.cell? ⟨b, 0, none⟩ = some (.slice (some ad) L.length c) ∧ wr.drew.cell? (adk.add i) = some (.int .i64 (p : Int)) ∧ wr.drew.cell? ⟨(ad.add (p * 4)).block, (ad.add (p * 4)).off + 1, none⟩ = some (.string xi) from ⟨c0, q8, k1⟩)
      have K2 := Aside0.mk (show wr.drew.cell? ⟨(ad.add (p * 4)).block, (ad.add (p * 4)).off + 2, none⟩ = some (.slice A2 xd.length c2) from k2)
      clear k0 k1 k2 k3 c0 q8
      refine wp_region_noPanic (plain_need [0, 1, 2, 3, 4, 5, 6, 7, 8, 9, 10, 11, 12] (fun W' => W'.cell? ⟨b, 0, none⟩ = some (.slice (some ad) L.length c) ∧ W'.cell? (adk.add i) = some (.int .i64 (p : Int)) ∧ W'.cell? ⟨(ad.add (p * 4)).block, (ad.add (p * 4)).off + 1, none⟩ = some (.string xi)) (by kernel_rfl) ?_)
      refine wpAnyN_take (i := 0) (v := ?_) rfl (by kernel_rfl) (by kernel_rfl) (by kernel_rfl) (by kernel_rfl) (fun _ _ _ h => h) (.inl ⟨by rfl, ?_⟩) HS0.out ?_
      rotate_left
      · (intro W' hW'; obtain ⟨s0, s1, s2⟩ := hW'; go_simp; try rfl)
      simp only [Act.put, List.setIfInBounds_toArray, List.set_cons_zero, List.set_cons_succ]
      refine wpAnyN_take (i := 1) (v := ?_) rfl (by kernel_rfl) (by kernel_rfl) (by kernel_rfl) (by kernel_rfl) (fun _ _ _ h => h) (.inl ⟨by rfl, ?_⟩) HS0.out ?_
      rotate_left
      · (intro W' hW'; obtain ⟨s0, s1, s2⟩ := hW'; go_simp; try rfl)
      simp only [Act.put, List.setIfInBounds_toArray, List.set_cons_zero, List.set_cons_succ]
      refine wpAnyN_take (i := 2) (v := ?_) rfl (by kernel_rfl) (by kernel_rfl) (by kernel_rfl) (by kernel_rfl) (fun _ _ _ h => h) (.inl ⟨by rfl, ?_⟩) HS0.out ?_
      rotate_left
      · (intro W' hW'; obtain ⟨s0, s1, s2⟩ := hW'; go_simp; try rfl)
      simp only [Act.put, List.setIfInBounds_toArray, List.set_cons_zero, List.set_cons_succ]
      refine wpAnyN_take (i := 3) (v := ?_) rfl (by kernel_rfl) (by kernel_rfl) (by kernel_rfl) (by kernel_rfl) (fun _ _ _ h => h) (.inl ⟨by rfl, ?_⟩) HS0.out ?_
      rotate_left
      · (intro W' hW'; obtain ⟨s0, s1, s2⟩ := hW'; go_simp; try rfl)
      simp only [Act.put, List.setIfInBounds_toArray, List.set_cons_zero, List.set_cons_succ]
      refine wpAnyN_take (i := 4) (v := ?_) rfl (by kernel_rfl) (by kernel_rfl) (by kernel_rfl) (by kernel_rfl) (fun _ _ _ h => h) (.inl ⟨by rfl, ?_⟩) HS0.out ?_
      rotate_left
      · (intro W' hW'; obtain ⟨s0, s1, s2⟩ := hW'; go_simp; try rfl)
      simp only [Act.put, List.setIfInBounds_toArray, List.set_cons_zero, List.set_cons_succ]
      refine wpAnyN_take (i := 5) (v := ?_) rfl (by kernel_rfl) (by kernel_rfl) (by kernel_rfl) (by kernel_rfl) (fun _ _ _ h => h) (.inl ⟨by rfl, ?_⟩) HS0.out ?_
      rotate_left
      · (intro W' hW'; obtain ⟨s0, s1, s2⟩ := hW'; go_simp; try rfl)
      simp only [Act.put, List.setIfInBounds_toArray, List.set_cons_zero, List.set_cons_succ]
      refine wpAnyN_take (i := 6) (v := ?_) rfl (by kernel_rfl) (by kernel_rfl) (by kernel_rfl) (by kernel_rfl) (fun _ _ _ h => h) (.inl ⟨by rfl, ?_⟩) HS0.out ?_
      rotate_left
      · (intro W' hW'; obtain ⟨s0, s1, s2⟩ := hW'; go_simp; try rfl)
      simp only [Act.put, List.setIfInBounds_toArray, List.set_cons_zero, List.set_cons_succ]
      refine wpAnyN_take (i := 7) (v := ?_) rfl (by kernel_rfl) (by kernel_rfl) (by kernel_rfl) (by kernel_rfl) (fun _ _ _ h => h) (.inl ⟨by rfl, ?_⟩) HS0.out ?_
      rotate_left
      · (intro W' hW'; obtain ⟨s0, s1, s2⟩ := hW'; go_simp; try rfl)
      simp only [Act.put, List.setIfInBounds_toArray, List.set_cons_zero, List.set_cons_succ]
      refine wpAnyN_take (i := 8) (v := ?_) rfl (by kernel_rfl) (by kernel_rfl) (by kernel_rfl) (by kernel_rfl) (fun _ _ _ h => h) (.inl ⟨by rfl, ?_⟩) HS0.out ?_
      rotate_left
      · (intro W' hW'; obtain ⟨s0, s1, s2⟩ := hW'; go_simp; try rfl)
      simp only [Act.put, List.setIfInBounds_toArray, List.set_cons_zero, List.set_cons_succ]
      refine wpAnyN_take (i := 9) (v := ?_) rfl (by kernel_rfl) (by kernel_rfl) (by kernel_rfl) (by kernel_rfl) (fun _ _ _ h => h) (.inl ⟨by rfl, ?_⟩) HS0.out ?_
      rotate_left
      · (intro W' hW'; obtain ⟨s0, s1, s2⟩ := hW'; go_simp; try rfl)
      simp only [Act.put, List.setIfInBounds_toArray, List.set_cons_zero, List.set_cons_succ]
      refine wpAnyN_take (i := 10) (v := ?_) rfl (by kernel_rfl) (by kernel_rfl) (by kernel_rfl) (by kernel_rfl) (fun _ _ _ h => h) (.inl ⟨by rfl, ?_⟩) HS0.out ?_
      rotate_left
      · (intro W' hW'; obtain ⟨s0, s1, s2⟩ := hW'; go_simp; try rfl)
      simp only [Act.put, List.setIfInBounds_toArray, List.set_cons_zero, List.set_cons_succ]
      refine wpAnyN_take (i := 11) (v := ?_) rfl (by kernel_rfl) (by kernel_rfl) (by kernel_rfl) (by kernel_rfl) (fun _ _ _ h => h) (.inl ⟨by rfl, ?_⟩) HS0.out ?_
      rotate_left
      · (intro W' hW'; obtain ⟨s0, s1, s2⟩ := hW'; go_simp; try rfl)
      simp only [Act.put, List.setIfInBounds_toArray, List.set_cons_zero, List.set_cons_succ]
      refine wpAnyN_one (i := 12) rfl (by kernel_rfl) (fun K hK => ?_)
      go_simp
      refine hK.out _ _ (fun _ => HS0.out) (fun _ => ?_)
      clear hK K
      try simp only [Act.put, List.setIfInBounds_toArray, List.set_cons_zero, List.set_cons_succ]
      refine wpAnyN_done (by kernel_rfl) (NoPanic.normal ?_) _
      by_cases hc : (xi.toList == id.toList) = true
      · have hfd : fnd kl id = some (xi, xd) := by
          unfold fnd
          rw [find_none_take _ kl i HN.out, List.drop_eq_getElem_cons (by rw [← HKL.out]; exact hlt)]
          have : kl[i]'(by rw [← HKL.out]; exact hlt) = (xi, xd) := by have := HKX.out; rw [List.getElem?_eq_getElem (by rw [← HKL.out]; exact hlt)] at this; exact Option.some.inj this
          rw [this, List.find?_cons]
          simp only
          rw [hc]
        have HFD := Aside0.mk hfd
        clear hfd
        rw [hc]
        clear hc
        go_upto_region 6 with (fail)
        refine wp_region_noPanic (plain_need [0, 1, 2, 3, 4, 5, 6, 7, 8, 9, 10] (fun W' => W'.cell? ⟨b, 0, none⟩ = some (.slice (some ad) L.length c) ∧ W'.cell? (adk.add i) = some (.int .i64 (p : Int)) ∧ W'.cell? ⟨(ad.add (p * 4)).block, (ad.add (p * 4)).off + 2, none⟩ = some (.slice A2 xd.length c2)) (by kernel_rfl) ?_)
        have HS1 := Aside0.mk (show wr.drew.drew.cell? ⟨b, 0, none⟩ = some (.slice (some ad) L.length c) ∧ wr.drew.drew.cell? (adk.add i) = some (.int .i64 (p : Int)) ∧ wr.drew.drew.cell? ⟨(ad.add (p * 4)).block, (ad.add (p * 4)).off + 2, none⟩ = some (.slice A2 xd.length c2) from ⟨HS0.out.1, HS0.out.2.1, K2.out⟩)
        refine wpAnyN_take (i := 0) (v := ?_) rfl (by kernel_rfl) (by kernel_rfl) (by kernel_rfl) (by kernel_rfl) (fun _ _ _ h => h) (.inl ⟨by rfl, ?_⟩) HS1.out ?_
        rotate_left
        · (intro W' hW'; obtain ⟨s0, s1, s2⟩ := hW'; go_simp; try rfl)
        simp only [Act.put, List.setIfInBounds_toArray, List.set_cons_zero, List.set_cons_succ]
        refine wpAnyN_take (i := 1) (v := ?_) rfl (by kernel_rfl) (by kernel_rfl) (by kernel_rfl) (by kernel_rfl) (fun _ _ _ h => h) (.inl ⟨by rfl, ?_⟩) HS1.out ?_
        rotate_left
        · (intro W' hW'; obtain ⟨s0, s1, s2⟩ := hW'; go_simp; try rfl)
        simp only [Act.put, List.setIfInBounds_toArray, List.set_cons_zero, List.set_cons_succ]
        refine wpAnyN_take (i := 2) (v := ?_) rfl (by kernel_rfl) (by kernel_rfl) (by kernel_rfl) (by kernel_rfl) (fun _ _ _ h => h) (.inl ⟨by rfl, ?_⟩) HS1.out ?_
        rotate_left
        · (intro W' hW'; obtain ⟨s0, s1, s2⟩ := hW'; go_simp; try rfl)
        simp only [Act.put, List.setIfInBounds_toArray, List.set_cons_zero, List.set_cons_succ]
        refine wpAnyN_take (i := 3) (v := ?_) rfl (by kernel_rfl) (by kernel_rfl) (by kernel_rfl) (by kernel_rfl) (fun _ _ _ h => h) (.inl ⟨by rfl, ?_⟩) HS1.out ?_
        rotate_left
        · (intro W' hW'; obtain ⟨s0, s1, s2⟩ := hW'; go_simp; try rfl)
        simp only [Act.put, List.setIfInBounds_toArray, List.set_cons_zero, List.set_cons_succ]
        refine wpAnyN_take (i := 4) (v := ?_) rfl (by kernel_rfl) (by kernel_rfl) (by kernel_rfl) (by kernel_rfl) (fun _ _ _ h => h) (.inl ⟨by rfl, ?_⟩) HS1.out ?_
        rotate_left
        · (intro W' hW'; obtain ⟨s0, s1, s2⟩ := hW'; go_simp; try rfl)
        simp only [Act.put, List.setIfInBounds_toArray, List.set_cons_zero, List.set_cons_succ]
        refine wpAnyN_take (i := 5) (v := ?_) rfl (by kernel_rfl) (by kernel_rfl) (by kernel_rfl) (by kernel_rfl) (fun _ _ _ h => h) (.inl ⟨by rfl, ?_⟩) HS1.out ?_
        rotate_left
        · (intro W' hW'; obtain ⟨s0, s1, s2⟩ := hW'; go_simp; try rfl)
        simp only [Act.put, List.setIfInBounds_toArray, List.set_cons_zero, List.set_cons_succ]
        refine wpAnyN_take (i := 6) (v := ?_) rfl (by kernel_rfl) (by kernel_rfl) (by kernel_rfl) (by kernel_rfl) (fun _ _ _ h => h) (.inl ⟨by rfl, ?_⟩) HS1.out ?_
        rotate_left
        · (intro W' hW'; obtain ⟨s0, s1, s2⟩ := hW'; go_simp; try rfl)
        simp only [Act.put, List.setIfInBounds_toArray, List.set_cons_zero, List.set_cons_succ]
        refine wpAnyN_take (i := 7) (v := ?_) rfl (by kernel_rfl) (by kernel_rfl) (by kernel_rfl) (by kernel_rfl) (fun _ _ _ h => h) (.inl ⟨by rfl, ?_⟩) HS1.out ?_
        rotate_left
        · (intro W' hW'; obtain ⟨s0, s1, s2⟩ := hW'; go_simp; try rfl)
        simp only [Act.put, List.setIfInBounds_toArray, List.set_cons_zero, List.set_cons_succ]
        refine wpAnyN_take (i := 8) (v := ?_) rfl (by kernel_rfl) (by kernel_rfl) (by kernel_rfl) (by kernel_rfl) (fun _ _ _ h => h) (.inl ⟨by rfl, ?_⟩) HS1.out ?_
        rotate_left
        · (intro W' hW'; obtain ⟨s0, s1, s2⟩ := hW'; go_simp; try rfl)
        simp only [Act.put, List.setIfInBounds_toArray, List.set_cons_zero, List.set_cons_succ]
        refine wpAnyN_take (i := 9) (v := ?_) rfl (by kernel_rfl) (by kernel_rfl) (by kernel_rfl) (by kernel_rfl) (fun _ _ _ h => h) (.inl ⟨by rfl, ?_⟩) HS1.out ?_
        rotate_left
        · (intro W' hW'; obtain ⟨s0, s1, s2⟩ := hW'; go_simp; try rfl)
        simp only [Act.put, List.setIfInBounds_toArray, List.set_cons_zero, List.set_cons_succ]
        refine wpAnyN_take (i := 10) (v := ?_) rfl (by kernel_rfl) (by kernel_rfl) (by kernel_rfl) (by kernel_rfl) (fun _ _ _ h => h) (.inl ⟨by rfl, ?_⟩) HS1.out ?_
        rotate_left
        · (intro W' hW'; obtain ⟨s0, s1, s2⟩ := hW'; go_simp; try rfl)
        simp only [Act.put, List.setIfInBounds_toArray, List.set_cons_zero, List.set_cons_succ]
        refine wpAnyN_one (i := 11) rfl (by kernel_rfl) (fun K hK => ?_)
        go_simp
        refine hK.out _ _ (fun h => Bool.noConfusion (show false = true from h)) (fun _ => ?_)
        clear hK K
        try simp only [Act.put, List.setIfInBounds_toArray, List.set_cons_zero, List.set_cons_succ]
        refine wpAnyN_one (i := 12) rfl (by kernel_rfl) (fun K hK => ?_)
        go_simp
        refine hK.out _ _ (fun h => Bool.noConfusion (show false = true from h)) (fun _ => ?_)
        clear hK K
        try simp only [Act.put, List.setIfInBounds_toArray, List.set_cons_zero, List.set_cons_succ]
        refine wpAnyN_done (by kernel_rfl) (NoPanic.normal ?_) _
        go_wp2_with fail
        (try simp only [Exit.inBlock, Exit.then]); refine bodyPost_ret (results_tmp2 rfl _ _ _) rfl ?_
        rw [HFD.out]
        exact ⟨A2, c2, rfl, HL2.out, HC2.out, HBW.out.trans (((Below.refl _ _).drew.drew).mono HBW.out.size)⟩
      · simp only [Bool.not_eq_true] at hc
        have HEQ := Aside0.mk hc
        rw [hc]
        clear hc
        go_wp2
        go_roundg (ks.length - (i + 1))
        case measure => have := HK.out; omega
        case rel => exact ⟨i + 1, by go_num, by omega, ⟨rfl⟩, ⟨HB.out.trans ((Below.refl _ _).drew)⟩, ⟨fun j hj x hx => by
          by_cases e : j = i
          · subst e; rw [HKX.out] at hx; injection hx with hx; subst hx; exact HEQ.out
          · exact HN.out j (by omega) x hx⟩⟩
    · have hie : i = ks.length := by omega
      subst hie
      have hfd : fnd kl id = none := by
        unfold fnd
        rw [find_none_take _ kl ks.length HN.out, HKL.out, List.drop_length]
        rfl
      have HFD := Aside0.mk hfd
      clear hfd
      go_wp2
      (try simp only [Exit.inBlock, Exit.then]); refine bodyPost_ret (results_tmp2 rfl _ _ _) rfl ?_
      rw [HFD.out]
      exact ⟨none, 0, rfl, Nat.le_refl _, C_nil_ _ _ _, HBW.out⟩
end Go.Proofs.YtaphacgdokhmmaaDoor.H
