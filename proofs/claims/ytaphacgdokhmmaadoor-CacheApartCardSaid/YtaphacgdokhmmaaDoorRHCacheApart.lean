/- CacheApart: the law walked. -/
import Derived.Test.YtaphacgdokhmmaaDoorRHCacheAwake
import Derived.Laws.Strings
set_option linter.unusedVariables false
set_option linter.unusedSimpArgs false
namespace Go.Proofs.YtaphacgdokhmmaaDoor.H
open Go.RowKit Go.Shelf Go.Proofs.YtaphacgdokhmmaaDoorW.PrintWords Go.Proofs.YtaphacgdokhmmaaDoorW.PrintLast Go.Proofs.YtaphacgdokhmmaaDoorW.PrintMore
theorem toList_inj {a b : ByteArray} (h : a.toList = b.toList) : a = b := by
  rw [ByteArray.toList_eq, ByteArray.toList_eq] at h
  exact Go.WideShapes.bytes_inj h
theorem dec_ne {m n : Nat} (h : m ≠ n) : ((dec (m : Int)).toList == (dec (n : Int)).toList) = false := by
  rw [beq_eq_false_iff_ne]
  intro e
  have := toList_inj e
  unfold dec at this
  injection this with h2
  exact h (itoa_inj (by simpa using h2))
structure ActIs (W : World) (ad : Addr) (A3 : Option Addr) (c3 : Nat) (x : S36) : Prop where
  k : W.cell? ad = some (.int .i64 x.f0)
  u : W.cell? ⟨ad.block, ad.off + 1, none⟩ = some (.string x.f1)
  d : W.cell? ⟨ad.block, ad.off + 2, none⟩ = some (.string x.f2)
  l : W.cell? ⟨ad.block, ad.off + 3, none⟩ = some (.slice A3 x.f3.length c3)
theorem ActIs.below {W w : World} {ad : Addr} {A3 : Option Addr} {c3 : Nat} {x : S36} (h : ActIs W ad A3 c3 x) (hb : Below W.heap.size W w) : ActIs w ad A3 c3 x := by
  have hl := World.block_lt_of_cell? W _ h.k
  exact ⟨(hb.cell hl).trans h.k, (hb.cell (p := ⟨ad.block, ad.off + 1, none⟩) hl).trans h.u, (hb.cell (p := ⟨ad.block, ad.off + 2, none⟩) hl).trans h.d, (hb.cell (p := ⟨ad.block, ad.off + 3, none⟩) hl).trans h.l⟩
theorem act_in {W : World} {A : Option Addr} {l : List S36} (h : Kd.C k36 W A l.length l) (i : Nat) (hi : i < l.length) :
    ∃ ad A3 c3, A = some ad ∧ ActIs W (ad.add (i * 4)) A3 c3 (l.getD i z36) ∧ (l.getD i z36).f3.length ≤ c3 ∧ Kd.C (Kd.int .i64) W A3 (l.getD i z36).f3.length (l.getD i z36).f3 := by
  obtain ⟨ad, A3, c3, e, k0, k1, k2, k3, hl, hF⟩ := act_at (Kd.C_F k36_heap_ h) i hi
  exact ⟨ad, A3, c3, e, ⟨k0, k1, k2, k3⟩, hl, Kd.F_now hF⟩
set_option maxHeartbeats 8000000 in
set_option maxRecDepth 100000 in
theorem apart_law (A0 : Option Addr) (c0 : Nat) (l0 : List S36) (uri : ByteArray) (A2 : Option Addr) (c2 : Nat) (l2 : List Int) (W : World) (hr0 : Kd.C k36 W A0 l0.length l0) (hc0 : l0.length ≤ c0) (hp0 : ∀ t ∈ l0, t.f1.size ≤ maxLen ∧ t.f3.length ≤ 17592186044416) (hu : uri.size ≤ maxLen) (hr2 : Kd.C (Kd.int .i64) W A2 l2.length l2) (hc2 : l2.length ≤ c2) (hl2 : l2.length ≤ 17592186044416) (htab : Tab W) :
    Calls Tryd.prog 6 #[.slice A0 l0.length c0, .string uri, .slice A2 l2.length c2] W fun e w' => e = .returned (.bool true) ∧ Below W.heap.size W w' := by
  have HT := Aside0.mk htab
  have HR0 := Aside0.mk hr0
  have HR2 := Aside0.mk hr2
  have HC0 := Aside0.mk hc0
  have HC2 := Aside0.mk hc2
  have HP := Aside0.mk hp0
  have HU := Aside0.mk hu
  have HAW := Aside0.mk (awake_law W W (Below.refl _ _) htab)
  obtain ⟨r, hgr, hgt⟩ := great_tot l0 (fun t ht => (hp0 t ht).2)
  have HGR := Aside0.mk hgr
  have HGT := Aside0.mk hgt
  clear htab hr0 hr2 hc0 hc2 hp0 hu hgr hgt
  go_enter Tryd.func6, Tryd.ntmps6
  go_upto_region 3 with (go_at_call 14; refine HAW.out.mono ?_; rintro e w1 ⟨rfl, hb⟩; have HB1 := Aside0.mk hb; clear hb)
  cases r with
  | true =>
    go_wp2_with (go_at_call 7; refine (glossatorlaw25_great.calls 500 A0 c0 l0 true w1 (Kd.C_below HR0.out HB1.out) HC0.out HGR.out).mono ?_; rintro e w2 ⟨rfl, hd⟩; have HB2 := Aside0.mk (HB1.out.trans (hd.below.mono HB1.out.size)); clear hd)
    go_ret
    exact ⟨rfl, HB2.out⟩
  | false =>
  by_cases hbig : (20000 : Int) < (l2.length : Int)
  · have hbig' : 20000 < l2.length := by omega
    go_wp2_with (go_at_call 7; refine (glossatorlaw25_great.calls 500 A0 c0 l0 false w1 (Kd.C_below HR0.out HB1.out) HC0.out HGR.out).mono ?_; rintro e w2 ⟨rfl, hd⟩; have HB2 := Aside0.mk (HB1.out.trans (hd.below.mono HB1.out.size)); clear hd)
    go_ret
    exact ⟨rfl, HB2.out⟩
  have hbig' : ¬ 20000 < l2.length := by omega
  have HL2 := Aside0.mk (show l2.length ≤ 20000 by omega)
  obtain ⟨hlen, hlens⟩ := HGT.out rfl
  have HLEN := Aside0.mk hlen
  have HLENS := Aside0.mk hlens
  clear hlens HGT hlen
  go_upto_region 6 with (first | (go_at_call 7; refine (glossatorlaw25_great.calls 500 A0 c0 l0 false w1 (Kd.C_below HR0.out HB1.out) HC0.out HGR.out).mono ?_; rintro e w2 ⟨rfl, hd⟩; have HB2 := Aside0.mk (HB1.out.trans (hd.below.mono HB1.out.size)); clear hd) | (go_at_call 8; refine (new_cw HB2.out).mono ?_; rintro e w3 ⟨b, Fp3, rfl, hcw, _⟩; have C3 := Aside0.mk hcw; clear hcw))
  clear hbig hbig'
  go_upto_region 8 with (go_at_call 12; refine (put_cw C3.out HT.out uri HU.out A2 c2 l2 HC2.out (C3.out.came (Kd.heap_int .i64) HR2.out) (by have := HL2.out; omega) (by omega)).mono ?_; rintro e w4 ⟨rfl, Fp4, hcw, _, _⟩; have C4 := Aside0.mk hcw; clear hcw)
  obtain ⟨id1, hid1⟩ : ∃ id1, id1 = dec 1 := ⟨_, rfl⟩
  have HM0 := Aside0.mk (show putM (fun _ => []) uri (dec (((0 : Nat) : Int) + 1), l2) uri = [(id1, l2)] by unfold putM; rw [if_pos rfl, hid1]; rfl)
  have HID := Aside0.mk (show id1 = dec ((1 : Nat) : Int) by rw [hid1]; rfl)
  rw [← hid1]
  clear hid1
  go_loopg [9] l0.length (fun kq v9 w' => ∃ (i n : Nat) (Fp : Nat → Prop) (M : ByteArray → List Res), v9 = .int .i64 i ∧ i ≤ l0.length ∧ n ≤ i + 1 ∧ 1 ≤ n ∧ Aside0 (kq = l0.length - i) ∧ Aside0 (CW W w' Fp b n M) ∧ Aside0 (M uri = [(id1, l2)]))
  case atStart => exact ⟨0, 1, Fp4, _, rfl, Nat.zero_le _, by omega, by omega, ⟨rfl⟩, C4, HM0⟩
  case round =>
    obtain ⟨i, n, Fp, M, rfl, hi, hn1, hn2, HK, C, HM⟩ := hrel
    have hlen := HLEN.out
    by_cases hlt : i < l0.length
    · obtain ⟨ad, A3, c3, e1, hA, hl3, hC3⟩ := act_in HR0.out i hlt
      have hmem : l0.getD i z36 ∈ l0 := by rw [List.getD_eq_getElem?_getD, List.getElem?_eq_getElem hlt]; exact List.getElem_mem hlt
      have hxu := (HP.out _ hmem).1
      have hxl := HLENS.out i hlt
      obtain ⟨x, hx⟩ : ∃ x, x = l0.getD i z36 := ⟨_, rfl⟩
      rw [← hx] at hA hl3 hC3 hxu hxl
      clear hx hmem
      obtain ⟨xk, xu, xd, xl⟩ := x
      simp only at hl3 hC3 hxu hxl
      subst e1
      have HA := Aside0.mk hA
      have HL3 := Aside0.mk hl3
      have HC3 := Aside0.mk hC3
      have HXU := Aside0.mk hxu
      have HXL := Aside0.mk hxl
      obtain ⟨k0, k1, k2, k3⟩ := hA.below C.out.bel
      simp only at k0 k1 k2 k3
      clear hA hl3 hC3 hxu hxl
      by_cases he : xu.toList = uri.toList
      · have heq : (xu.toList == uri.toList) = true := beq_iff_eq.mpr he
        clear he
        go_wp2
        go_roundg (l0.length - (i + 1))
        case measure => have := HK.out; omega
        case rel => exact ⟨i + 1, n, Fp, M, by go_num, by omega, by omega, hn2, ⟨rfl⟩, C, HM⟩
      · have heq : (xu.toList == uri.toList) = false := beq_eq_false_iff_ne.mpr he
        have HNE := Aside0.mk (show ¬ uri = xu from fun e => he (by rw [e]))
        clear he
        by_cases hk0 : xk = 0
        · have d0 : (xk == 0) = true := by simp [hk0]
          clear hk0
          go_upto_region 13 with (fail)
          have C2_ := Aside0.mk (C.out.below (W' := wr.drew) (Below.refl _ _).drew)
          have HS0 := Aside0.mk (show wr.drew.cell? ⟨(ad.add (i * 4)).block, (ad.add (i * 4)).off + 1, none⟩ = some (.string xu) ∧ wr.drew.cell? ⟨(ad.add (i * 4)).block, (ad.add (i * 4)).off + 3, none⟩ = some (.slice A3 xl.length c3) from ⟨k1, k3⟩)
          clear k0 k1 k2 k3 heq d0
          refine wp_region_noPanic (plain_need [0, 1, 2, 3, 4, 5, 6, 7, 8, 9, 10, 11] (fun W' => W'.cell? ⟨(ad.add (i * 4)).block, (ad.add (i * 4)).off + 1, none⟩ = some (.string xu) ∧ W'.cell? ⟨(ad.add (i * 4)).block, (ad.add (i * 4)).off + 3, none⟩ = some (.slice A3 xl.length c3)) (by kernel_rfl) ?_)
          refine wpAnyN_take (i := 0) (v := ?_) rfl (by kernel_rfl) (by kernel_rfl) (by kernel_rfl) (by kernel_rfl) (fun _ _ _ h => h) (.inl ⟨by rfl, ?_⟩) HS0.out ?_
          rotate_left
          · (intro W' hW'; obtain ⟨s0, s1⟩ := hW'; go_simp; try rfl)
          simp only [Act.put, List.setIfInBounds_toArray, List.set_cons_zero, List.set_cons_succ]
          refine wpAnyN_take (i := 1) (v := ?_) rfl (by kernel_rfl) (by kernel_rfl) (by kernel_rfl) (by kernel_rfl) (fun _ _ _ h => h) (.inl ⟨by rfl, ?_⟩) HS0.out ?_
          rotate_left
          · (intro W' hW'; obtain ⟨s0, s1⟩ := hW'; go_simp; try rfl)
          simp only [Act.put, List.setIfInBounds_toArray, List.set_cons_zero, List.set_cons_succ]
          refine wpAnyN_take (i := 2) (v := ?_) rfl (by kernel_rfl) (by kernel_rfl) (by kernel_rfl) (by kernel_rfl) (fun _ _ _ h => h) (.inl ⟨by rfl, ?_⟩) HS0.out ?_
          rotate_left
          · (intro W' hW'; obtain ⟨s0, s1⟩ := hW'; go_simp; try rfl)
          simp only [Act.put, List.setIfInBounds_toArray, List.set_cons_zero, List.set_cons_succ]
          refine wpAnyN_take (i := 3) (v := ?_) rfl (by kernel_rfl) (by kernel_rfl) (by kernel_rfl) (by kernel_rfl) (fun _ _ _ h => h) (.inl ⟨by rfl, ?_⟩) HS0.out ?_
          rotate_left
          · (intro W' hW'; obtain ⟨s0, s1⟩ := hW'; go_simp; try rfl)
          simp only [Act.put, List.setIfInBounds_toArray, List.set_cons_zero, List.set_cons_succ]
          refine wpAnyN_take (i := 4) (v := ?_) rfl (by kernel_rfl) (by kernel_rfl) (by kernel_rfl) (by kernel_rfl) (fun _ _ _ h => h) (.inl ⟨by rfl, ?_⟩) HS0.out ?_
          rotate_left
          · (intro W' hW'; obtain ⟨s0, s1⟩ := hW'; go_simp; try rfl)
          simp only [Act.put, List.setIfInBounds_toArray, List.set_cons_zero, List.set_cons_succ]
          refine wpAnyN_take (i := 5) (v := ?_) rfl (by kernel_rfl) (by kernel_rfl) (by kernel_rfl) (by kernel_rfl) (fun _ _ _ h => h) (.inl ⟨by rfl, ?_⟩) HS0.out ?_
          rotate_left
          · (intro W' hW'; obtain ⟨s0, s1⟩ := hW'; go_simp; try rfl)
          simp only [Act.put, List.setIfInBounds_toArray, List.set_cons_zero, List.set_cons_succ]
          refine wpAnyN_take (i := 6) (v := ?_) rfl (by kernel_rfl) (by kernel_rfl) (by kernel_rfl) (by kernel_rfl) (fun _ _ _ h => h) (.inl ⟨by rfl, ?_⟩) HS0.out ?_
          rotate_left
          · (intro W' hW'; obtain ⟨s0, s1⟩ := hW'; go_simp; try rfl)
          simp only [Act.put, List.setIfInBounds_toArray, List.set_cons_zero, List.set_cons_succ]
          refine wpAnyN_take (i := 7) (v := ?_) rfl (by kernel_rfl) (by kernel_rfl) (by kernel_rfl) (by kernel_rfl) (fun _ _ _ h => h) (.inl ⟨by rfl, ?_⟩) HS0.out ?_
          rotate_left
          · (intro W' hW'; obtain ⟨s0, s1⟩ := hW'; go_simp; try rfl)
          simp only [Act.put, List.setIfInBounds_toArray, List.set_cons_zero, List.set_cons_succ]
          refine wpAnyN_take (i := 8) (v := ?_) rfl (by kernel_rfl) (by kernel_rfl) (by kernel_rfl) (by kernel_rfl) (fun _ _ _ h => h) (.inl ⟨by rfl, ?_⟩) HS0.out ?_
          rotate_left
          · (intro W' hW'; obtain ⟨s0, s1⟩ := hW'; go_simp; try rfl)
          simp only [Act.put, List.setIfInBounds_toArray, List.set_cons_zero, List.set_cons_succ]
          refine wpAnyN_take (i := 9) (v := ?_) rfl (by kernel_rfl) (by kernel_rfl) (by kernel_rfl) (by kernel_rfl) (fun _ _ _ h => h) (.inl ⟨by rfl, ?_⟩) HS0.out ?_
          rotate_left
          · (intro W' hW'; obtain ⟨s0, s1⟩ := hW'; go_simp; try rfl)
          simp only [Act.put, List.setIfInBounds_toArray, List.set_cons_zero, List.set_cons_succ]
          refine wpAnyN_take (i := 10) (v := ?_) rfl (by kernel_rfl) (by kernel_rfl) (by kernel_rfl) (by kernel_rfl) (fun _ _ _ h => h) (.inl ⟨by rfl, ?_⟩) HS0.out ?_
          rotate_left
          · (intro W' hW'; obtain ⟨s0, s1⟩ := hW'; go_simp; try rfl)
          simp only [Act.put, List.setIfInBounds_toArray, List.set_cons_zero, List.set_cons_succ]
          refine wpAnyN_one (i := 11) rfl (by kernel_rfl) (fun K hK => ?_)
          go_simp
          refine (put_cw C2_.out HT.out xu HXU.out A3 c3 xl HL3.out (C2_.out.came (Kd.heap_int .i64) HC3.out) (by have := HXL.out; omega) (by omega)).mono ?_
          rintro e w5 ⟨rfl, Fp5, hcw, hkp, _⟩
          have C5 := Aside0.mk hcw
          have HA5 := HA.out.below hcw.bel
          have HS1 := Aside0.mk (show w5.cell? ⟨(ad.add (i * 4)).block, (ad.add (i * 4)).off + 1, none⟩ = some (.string xu) ∧ w5.cell? ⟨(ad.add (i * 4)).block, (ad.add (i * 4)).off + 3, none⟩ = some (.slice A3 xl.length c3) from ⟨HA5.u, HA5.l⟩)
          have HM5 := Aside0.mk (show putM M xu (dec ((n : Int) + 1), xl) uri = [(id1, l2)] by unfold putM; rw [if_neg HNE.out]; exact HM.out)
          clear hcw hkp HA5
          refine hK.out _ _ (fun _ => HS1.out) (fun _ => ?_)
          clear hK K
          try simp only [Act.put, List.setIfInBounds_toArray, List.set_cons_zero, List.set_cons_succ]
          refine wpAnyN_one (i := 12) rfl (by kernel_rfl) (fun K hK => ?_)
          go_simp
          refine hK.out _ _ (fun h => Bool.noConfusion (show false = true from h)) (fun _ => ?_)
          clear hK K
          try simp only [Act.put, List.setIfInBounds_toArray, List.set_cons_zero, List.set_cons_succ]
          refine wpAnyN_done (by kernel_rfl) (NoPanic.normal ?_) _
          have hfd : fnd (putM M xu (dec ((n : Int) + 1), xl) uri) (dec ((n : Int) + 1)) = none := by
            rw [HM5.out]
            unfold fnd
            rw [List.find?_cons, HID.out]
            simp only
            rw [show ((n : Int) + 1) = ((n + 1 : Nat) : Int) by push_cast; rfl, dec_ne (by omega : 1 ≠ n + 1)]
            rfl
          have HFD := Aside0.mk hfd
          obtain ⟨M5, hM5⟩ : ∃ M5, M5 = putM M xu (dec ((n : Int) + 1), xl) := ⟨_, rfl⟩
          obtain ⟨id5, hid5⟩ : ∃ id5, id5 = dec ((n : Int) + 1) := ⟨_, rfl⟩
          rw [← hM5] at C5 HM5
          rw [← hM5, ← hid5] at HFD
          rw [← hid5]
          clear hfd hM5 hid5
          go_wp2_with (go_at_call 11; refine (get_cw C5.out uri id5 HU.out).mono ?_; rintro e w6 ⟨A6, c6, he_, hc_, hF_, hR_, hcw_, hb_⟩; rw [HFD.out] at he_; subst he_; have C6 := Aside0.mk hcw_; clear hc_ hF_ hR_ hcw_ hb_)
          go_roundg (l0.length - (i + 1))
          case measure => have := HK.out; omega
          case rel => exact ⟨i + 1, n + 1, Fp5, M5, by go_num, by omega, by omega, by omega, ⟨rfl⟩, C6, HM5⟩
        · have d0 : (xk == 0) = false := by simp [hk0]
          by_cases hk1 : xk = 1
          · have d1 : (xk == 1) = true := by simp [hk1]
            clear hk0 hk1
            go_upto_region 18 with (fail)
            have C2_ := Aside0.mk (C.out.below (W' := wr.drew) (Below.refl _ _).drew)
            have HS0 := Aside0.mk (show wr.drew.cell? ⟨(ad.add (i * 4)).block, (ad.add (i * 4)).off + 1, none⟩ = some (.string xu) ∧ wr.drew.cell? ⟨(ad.add (i * 4)).block, (ad.add (i * 4)).off + 2, none⟩ = some (.string xd) from ⟨k1, k2⟩)
            clear k0 k1 k2 k3 heq d0 d1
            refine wp_region_noPanic (plain_need [0, 1, 2, 3, 4, 5, 6, 7, 8, 9, 10, 11] (fun W' => W'.cell? ⟨(ad.add (i * 4)).block, (ad.add (i * 4)).off + 1, none⟩ = some (.string xu) ∧ W'.cell? ⟨(ad.add (i * 4)).block, (ad.add (i * 4)).off + 2, none⟩ = some (.string xd)) (by kernel_rfl) ?_)
            refine wpAnyN_take (i := 0) (v := ?_) rfl (by kernel_rfl) (by kernel_rfl) (by kernel_rfl) (by kernel_rfl) (fun _ _ _ h => h) (.inl ⟨by rfl, ?_⟩) HS0.out ?_
            rotate_left
            · (intro W' hW'; obtain ⟨s0, s1⟩ := hW'; go_simp; try rfl)
            simp only [Act.put, List.setIfInBounds_toArray, List.set_cons_zero, List.set_cons_succ]
            refine wpAnyN_take (i := 1) (v := ?_) rfl (by kernel_rfl) (by kernel_rfl) (by kernel_rfl) (by kernel_rfl) (fun _ _ _ h => h) (.inl ⟨by rfl, ?_⟩) HS0.out ?_
            rotate_left
            · (intro W' hW'; obtain ⟨s0, s1⟩ := hW'; go_simp; try rfl)
            simp only [Act.put, List.setIfInBounds_toArray, List.set_cons_zero, List.set_cons_succ]
            refine wpAnyN_take (i := 2) (v := ?_) rfl (by kernel_rfl) (by kernel_rfl) (by kernel_rfl) (by kernel_rfl) (fun _ _ _ h => h) (.inl ⟨by rfl, ?_⟩) HS0.out ?_
            rotate_left
            · (intro W' hW'; obtain ⟨s0, s1⟩ := hW'; go_simp; try rfl)
            simp only [Act.put, List.setIfInBounds_toArray, List.set_cons_zero, List.set_cons_succ]
            refine wpAnyN_take (i := 3) (v := ?_) rfl (by kernel_rfl) (by kernel_rfl) (by kernel_rfl) (by kernel_rfl) (fun _ _ _ h => h) (.inl ⟨by rfl, ?_⟩) HS0.out ?_
            rotate_left
            · (intro W' hW'; obtain ⟨s0, s1⟩ := hW'; go_simp; try rfl)
            simp only [Act.put, List.setIfInBounds_toArray, List.set_cons_zero, List.set_cons_succ]
            refine wpAnyN_take (i := 4) (v := ?_) rfl (by kernel_rfl) (by kernel_rfl) (by kernel_rfl) (by kernel_rfl) (fun _ _ _ h => h) (.inl ⟨by rfl, ?_⟩) HS0.out ?_
            rotate_left
            · (intro W' hW'; obtain ⟨s0, s1⟩ := hW'; go_simp; try rfl)
            simp only [Act.put, List.setIfInBounds_toArray, List.set_cons_zero, List.set_cons_succ]
            refine wpAnyN_take (i := 5) (v := ?_) rfl (by kernel_rfl) (by kernel_rfl) (by kernel_rfl) (by kernel_rfl) (fun _ _ _ h => h) (.inl ⟨by rfl, ?_⟩) HS0.out ?_
            rotate_left
            · (intro W' hW'; obtain ⟨s0, s1⟩ := hW'; go_simp; try rfl)
            simp only [Act.put, List.setIfInBounds_toArray, List.set_cons_zero, List.set_cons_succ]
            refine wpAnyN_take (i := 6) (v := ?_) rfl (by kernel_rfl) (by kernel_rfl) (by kernel_rfl) (by kernel_rfl) (fun _ _ _ h => h) (.inl ⟨by rfl, ?_⟩) HS0.out ?_
            rotate_left
            · (intro W' hW'; obtain ⟨s0, s1⟩ := hW'; go_simp; try rfl)
            simp only [Act.put, List.setIfInBounds_toArray, List.set_cons_zero, List.set_cons_succ]
            refine wpAnyN_take (i := 7) (v := ?_) rfl (by kernel_rfl) (by kernel_rfl) (by kernel_rfl) (by kernel_rfl) (fun _ _ _ h => h) (.inl ⟨by rfl, ?_⟩) HS0.out ?_
            rotate_left
            · (intro W' hW'; obtain ⟨s0, s1⟩ := hW'; go_simp; try rfl)
            simp only [Act.put, List.setIfInBounds_toArray, List.set_cons_zero, List.set_cons_succ]
            refine wpAnyN_take (i := 8) (v := ?_) rfl (by kernel_rfl) (by kernel_rfl) (by kernel_rfl) (by kernel_rfl) (fun _ _ _ h => h) (.inl ⟨by rfl, ?_⟩) HS0.out ?_
            rotate_left
            · (intro W' hW'; obtain ⟨s0, s1⟩ := hW'; go_simp; try rfl)
            simp only [Act.put, List.setIfInBounds_toArray, List.set_cons_zero, List.set_cons_succ]
            refine wpAnyN_take (i := 9) (v := ?_) rfl (by kernel_rfl) (by kernel_rfl) (by kernel_rfl) (by kernel_rfl) (fun _ _ _ h => h) (.inl ⟨by rfl, ?_⟩) HS0.out ?_
            rotate_left
            · (intro W' hW'; obtain ⟨s0, s1⟩ := hW'; go_simp; try rfl)
            simp only [Act.put, List.setIfInBounds_toArray, List.set_cons_zero, List.set_cons_succ]
            refine wpAnyN_take (i := 10) (v := ?_) rfl (by kernel_rfl) (by kernel_rfl) (by kernel_rfl) (by kernel_rfl) (fun _ _ _ h => h) (.inl ⟨by rfl, ?_⟩) HS0.out ?_
            rotate_left
            · (intro W' hW'; obtain ⟨s0, s1⟩ := hW'; go_simp; try rfl)
            simp only [Act.put, List.setIfInBounds_toArray, List.set_cons_zero, List.set_cons_succ]
            refine wpAnyN_one (i := 11) rfl (by kernel_rfl) (fun K hK => ?_)
            go_simp
            refine (get_cw C2_.out xu xd HXU.out).mono ?_
            rintro e w5 ⟨A5, c5, rfl, hc_, hF_, hR_, hcw_, hb_⟩
            have C5 := Aside0.mk hcw_
            have HA5 := HA.out.below hcw_.bel
            have HS1 := Aside0.mk (show w5.cell? ⟨(ad.add (i * 4)).block, (ad.add (i * 4)).off + 1, none⟩ = some (.string xu) ∧ w5.cell? ⟨(ad.add (i * 4)).block, (ad.add (i * 4)).off + 2, none⟩ = some (.string xd) from ⟨HA5.u, HA5.d⟩)
            clear hc_ hF_ hR_ hcw_ hb_ HA5
            refine hK.out _ _ (fun _ => HS1.out) (fun _ => ?_)
            clear hK K
            try simp only [Act.put, List.setIfInBounds_toArray, List.set_cons_zero, List.set_cons_succ]
            refine wpAnyN_done (by kernel_rfl) (NoPanic.normal ?_) _
            go_wp2_with fail
            go_roundg (l0.length - (i + 1))
            case measure => have := HK.out; omega
            case rel => exact ⟨i + 1, n, Fp, M, by go_num, by omega, by omega, hn2, ⟨rfl⟩, C5, HM⟩
          · have d1 : (xk == 1) = false := by simp [hk1]
            by_cases hk2 : xk = 2
            · have d2 : (xk == 2) = true := by simp [hk2]
              clear hk0 hk1 hk2
              go_wp2_with (go_at_call 10; refine (drop_cw C.out xu HXU.out).mono ?_; rintro e w5 ⟨rfl, hcw, _, _⟩; have C5 := Aside0.mk hcw; clear hcw)
              have HM5 := Aside0.mk (show dropM M xu uri = [(id1, l2)] by unfold dropM; rw [if_neg HNE.out]; exact HM.out)
              go_roundg (l0.length - (i + 1))
              case measure => have := HK.out; omega
              case rel => exact ⟨i + 1, n, Fp, _, by go_num, by omega, by omega, hn2, ⟨rfl⟩, C5, HM5⟩
            · have d2 : (xk == 2) = false := by simp [hk2]
              clear hk0 hk1 hk2
              go_wp2
              go_roundg (l0.length - (i + 1))
              case measure => have := HK.out; omega
              case rel => exact ⟨i + 1, n, Fp, M, by go_num, by omega, by omega, hn2, ⟨rfl⟩, C, HM⟩
    · have hie : i = l0.length := by omega
      subst hie
      have hfd : fnd (M uri) id1 = some (id1, l2) := by
        rw [HM.out]
        unfold fnd
        rw [List.find?_cons]
        simp
      have HFD := Aside0.mk hfd
      have HMK := Aside0.mk (show (M uri).map (·.1) = [id1] by rw [HM.out]; rfl)
      obtain ⟨KS, hKS⟩ := same_self l2 (by have := HL2.out; omega)
      obtain ⟨KT, hKT⟩ := sameT_self [id1] (by simp)
      have HKS := Aside0.mk hKS
      have HKT := Aside0.mk hKT
      clear hfd hKS hKT
      go_upto_region 22 with (go_at_call 11; refine (get_cw C.out uri id1 HU.out).mono ?_; rintro e w6 ⟨A6, c6, he_, hc_, hF_, hR_, hcw_, hb_⟩; rw [HFD.out] at he_ hc_ hF_; subst he_; have C6 := Aside0.mk hcw_; have HF6 := Aside0.mk hF_; have HC6 := Aside0.mk hc_; clear hc_ hF_ hR_ hcw_ hb_)
      go_wp2_with (first | (go_at_call 16; refine (glossatorref25_Same.calls KS A6 c6 l2 A2 c2 l2 true w6 (Kd.F_now HF6.out) HC6.out (Kd.C_below HR2.out C6.out.bel) HC2.out HKS.out).mono ?_; rintro e w7 ⟨rfl, hd_⟩; have C7 := Aside0.mk (C6.out.below hd_.below); clear hd_ C6) | (go_at_call 13; refine (kept_cw C7.out uri HU.out).mono ?_; rintro e w8 ⟨Ak, ck, he_, hc_, hF_, hcw_, hb_⟩; rw [HMK.out] at he_ hc_ hF_; subst he_; have HFk := Aside0.mk hF_; have HCk := Aside0.mk hc_; have C8 := Aside0.mk hcw_; clear hc_ hF_ hcw_ hb_ C7) | ((with_reducible refine gate_dst (N := 110) rfl ?_); (try (refine gate_guard (by rfl) ?_; dsimp only)); refine Kd.R_lit Kd.string w8.heap.size 9 ?hg (N := 110) ?hd (xs := ([id1] : List ByteArray)) (inner := [.string id1]) (ok := fun q => w8.heap.size ≤ q) (okp := fun _ => False) ?hr ?hp (fun _ hk => hk.elim) (Nat.le_refl _) (Below.refl _ _) (Nat.le_refl _) (by simp) ?_; (case hd => rfl); (case hg => rfl); (case hr => first | (go_simp; done) | (go_simp; rfl)); (case hp => exact Reps.one rfl (Reps.none _ _)); intro v_ w9 ho_ hb_ hg_ hnew_; obtain ⟨At, ct, rfl, hct, _⟩ := Kd.R_reads ho_; have HFt := Aside0.mk (C8.out.new hb_ ho_); have HCt := Aside0.mk hct; have HB_w9 := Aside0.mk hb_; have C8b := Aside0.mk (C8.out.below hb_); clear hg_ hnew_ ho_ hb_ hct C8) | (go_at_call 15; refine (glossatorref25_SameTexts.calls KT Ak ck [id1] At ct [id1] true w9 (Kd.C_below (Kd.F_now HFk.out) HB_w9.out) HCk.out (Kd.F_now HFt.out) HCt.out HKT.out).mono ?_; rintro e w10 ⟨rfl, hd_⟩; have C10 := Aside0.mk (C8b.out.below hd_.below); clear hd_ C8b))
      go_ret
      exact ⟨rfl, C10.out.bel⟩
end Go.Proofs.YtaphacgdokhmmaaDoor.H
