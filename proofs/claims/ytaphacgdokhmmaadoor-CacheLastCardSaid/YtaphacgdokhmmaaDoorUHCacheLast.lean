/- CacheLast: the law walked. -/
import Derived.Test.YtaphacgdokhmmaaDoorUHCacheRows
set_option linter.unusedVariables false
set_option linter.unusedSimpArgs false
namespace Go.Proofs.YtaphacgdokhmmaaDoor.H
open Go.RowKit Go.Shelf Go.Proofs.YtaphacgdokhmmaaDoorW.PrintWords Go.Proofs.YtaphacgdokhmmaaDoorW.PrintLast Go.Proofs.YtaphacgdokhmmaaDoorW.PrintMore
theorem wpList_append_run {P : Program} {w w' : World} {ops : Array Oper} {rest : List Oper} {o : Oper} {a : Act} {Q : Exit → Act → World → Prop} {v' : Value}
    (hg : o.guard = none) (s x : Operand) (t : TypeId) (hop : o.op = Op.call { callee := Callee.builtin Builtin.append, args := #[s, x], argTypes := #[t, t] })
    (hrun : (Builtin.append_ #[t, t] o.type #[a.eval s, a.eval x]).run P w = .ok v' w') (hK : wpList P ops Q rest (a.put o.dst v') w') : wpList P ops Q (o :: rest) a w := by
  refine wpList_plain hg fun K hK' => ?_
  unfold Oper.wp execOp
  simp only [hop, resolve, invoke, builtin, Sem.run_bind, Sem.run_pure, Result.andThen_ok, List.map_toArray, List.map_cons, List.map_nil, hrun]
  exact hK' _ _ hK
theorem C_nil_ {α : Type} (d : Kd α) (W : World) (A : Option Addr) : Kd.C d W A ([] : List α).length [] := ⟨rfl, Nat.zero_le _, fun h => absurd h (Nat.lt_irrefl 0)⟩
theorem fnd_len {W0 : World} {dat : List (List Value)} {ml : List Res} (h : DatOk W0 dat ml) (id : ByteArray) : ((fnd ml id).elim [] (·.2)).length ≤ 20000 := by
  cases e : fnd ml id with
  | none => simp
  | some r =>
    obtain ⟨j, hj⟩ := List.getElem?_of_mem (List.mem_of_find?_eq_some e)
    obtain ⟨A, c, _, _, hl, _⟩ := h.2 j r hj
    exact hl
theorem sameT_m (KT : Nat) (A : Option Addr) (c : Nat) (B : Option Addr) (m cb : Nat) (l : List ByteArray) (w : World) (h1 : Kd.C Kd.string w A l.length l) (h2 : l.length ≤ c) (h3 : Kd.C Kd.string w B l.length l) (hm : m = l.length) (h4 : m ≤ cb) (hk : glossatorref25_SameTexts.f KT l l = some true) :
    Calls Tryd.prog 15 #[.slice A l.length c, .slice B m cb] w fun e w' => e = .returned (.bool true) ∧ Drawn0 w w' := by
  subst hm
  exact glossatorref25_SameTexts.calls KT A c l B cb l true w h1 h2 h3 h4 hk
theorem C_at {α : Type} {d : Kd α} {W : World} {A B : Option Addr} {l l' : List α} (h : Kd.C d W A l.length l) (hA : A = B) (hl : l = l') : Kd.C d W B l'.length l' := by subst hA hl; exact h
set_option maxHeartbeats 8000000 in
set_option maxRecDepth 100000 in
theorem last_law (A0 : Option Addr) (c0 : Nat) (l0 : List S36) (uri : ByteArray) (W : World) (hr0 : Kd.C k36 W A0 l0.length l0) (hc0 : l0.length ≤ c0) (hp0 : ∀ t ∈ l0, t.f1.size ≤ maxLen ∧ t.f3.length ≤ 17592186044416) (hu : uri.size ≤ maxLen) (htab : Tab W) :
    Calls Tryd.prog 5 #[.slice A0 l0.length c0, .string uri] W fun e w' => e = .returned (.bool true) ∧ Below W.heap.size W w' := by
  have HT := Aside0.mk htab
  have HR0 := Aside0.mk hr0
  have HC0 := Aside0.mk hc0
  have HP := Aside0.mk hp0
  have HU := Aside0.mk hu
  have HAW := Aside0.mk (awake_law W W (Below.refl _ _) htab)
  obtain ⟨r, hgr, hgt⟩ := great_tot l0 (fun t ht => (hp0 t ht).2)
  have HGR := Aside0.mk hgr
  have HGT := Aside0.mk hgt
  clear htab hr0 hc0 hp0 hu hgr hgt
  go_enter Tryd.func5, Tryd.ntmps5
  go_upto_region 3 with (go_at_call 14; refine HAW.out.mono ?_; rintro e w1 ⟨rfl, hb⟩; have HB1 := Aside0.mk hb; clear hb)
  cases r with
  | true =>
    go_wp2_with (go_at_call 7; refine (glossatorlaw25_great.calls 500 A0 c0 l0 true w1 (Kd.C_below HR0.out HB1.out) HC0.out HGR.out).mono ?_; rintro e w2 ⟨rfl, hd⟩; have HB2 := Aside0.mk (HB1.out.trans (hd.below.mono HB1.out.size)); clear hd)
    go_ret
    exact ⟨rfl, HB2.out⟩
  | false =>
  obtain ⟨hlen, hlens⟩ := HGT.out rfl
  have HLEN := Aside0.mk hlen
  have HLENS := Aside0.mk hlens
  clear hlens HGT hlen
  go_upto_region 9 with (first | (go_at_call 7; refine (glossatorlaw25_great.calls 500 A0 c0 l0 false w1 (Kd.C_below HR0.out HB1.out) HC0.out HGR.out).mono ?_; rintro e w2 ⟨rfl, hd⟩; have HB2 := Aside0.mk (HB1.out.trans (hd.below.mono HB1.out.size)); clear hd) | (go_at_call 8; refine (new_cw HB2.out).mono ?_; rintro e w3 ⟨b, Fp3, rfl, hcw, _⟩; have C3 := Aside0.mk hcw; clear hcw))
  have L3 := Aside0.mk (LR.start C3.out)
  go_loopg [6, 7, 8, 9] l0.length (fun kq v6 v7 v8 v9 w' => ∃ (i n nm : Nat) (Fp : Nat → Prop) (M : ByteArray → List Res) (ids : List ByteArray) (ml : List Res) (dat : List (List Value)) (A6 : Option Addr) (c6 : Nat) (A7 : Option Addr) (c7 : Nat) (A8 : Option Addr) (c8 : Nat), v6 = .slice A6 n c6 ∧ v7 = .slice A7 nm c7 ∧ v8 = .slice A8 nm c8 ∧ v9 = .int .i64 i ∧ i ≤ l0.length ∧ n ≤ i ∧ Aside0 (nm = ml.length) ∧ Aside0 (kq = l0.length - i) ∧ Aside0 (LR W w' Fp b n M (.slice A6 n c6) (.slice A7 nm c7) (.slice A8 nm c8) ids (ml.map (·.1)) dat) ∧ Aside0 (Mod M uri n ids ml) ∧ Aside0 (DatOk W dat ml))
  case atStart => exact ⟨0, 0, 0, Fp3, _, [], [], [], none, 0, none, 0, none, 0, rfl, rfl, rfl, rfl, Nat.zero_le _, Nat.le_refl _, ⟨rfl⟩, ⟨rfl⟩, L3, ⟨Mod.start⟩, ⟨rfl, fun j r hj => by simp at hj⟩⟩
  case round =>
    obtain ⟨i, n, nm, Fp, M, ids, ml, dat, A6, c6, A7, c7, A8, c8, rfl, rfl, rfl, rfl, hi, hn1, HNM, HK, LL, HM, HD⟩ := hrel
    have hlen := HLEN.out
    have HN := Aside0.mk (show n ≤ 400 ∧ ids.length ≤ 400 ∧ nm ≤ 400 ∧ ml.length ≤ 400 ∧ dat.length ≤ 400 by
      have := HM.out.len
      have := HM.out.few
      have := HD.out.1
      have := HNM.out
      omega)
    by_cases hlt : i < l0.length
    · obtain ⟨ad, A3, c3, e1, hA, hl3, hC3⟩ := act_in HR0.out i hlt
      have hmem : l0.getD i z36 ∈ l0 := by rw [List.getD_eq_getElem?_getD, List.getElem?_eq_getElem hlt]; exact List.getElem_mem hlt
      have hxu := (HP.out _ hmem).1
      have hxl := HLENS.out i hlt
      obtain ⟨x, hx⟩ : ∃ x, x = l0.getD i z36 := ⟨_, rfl⟩
      rw [← hx] at hA hl3 hC3 hxu hxl
      clear hx hmem
      obtain ⟨xk, xu, xd, xl⟩ := x
      simp only at hl3 hC3 hxu hxl
      subst e1
      have HA := Aside0.mk hA
      have HL3 := Aside0.mk hl3
      have HC3 := Aside0.mk hC3
      have HXU := Aside0.mk hxu
      have HXL := Aside0.mk hxl
      obtain ⟨k0, k1, k2, k3⟩ := hA.below LL.out.cw.bel
      simp only at k0 k1 k2 k3
      clear hA hl3 hC3 hxu hxl
      by_cases hk0 : xk = 0
      · have d0 : (xk == 0) = true := by simp [hk0]
        clear hk0
        go_upto_region 13 with (fail)
        have L2_ := Aside0.mk (LL.out.below (W' := wr.drew) (Below.refl _ _).drew)
        have HS0 := Aside0.mk (show wr.drew.cell? ⟨(ad.add (i * 4)).block, (ad.add (i * 4)).off + 1, none⟩ = some (.string xu) ∧ wr.drew.cell? ⟨(ad.add (i * 4)).block, (ad.add (i * 4)).off + 3, none⟩ = some (.slice A3 xl.length c3) from ⟨k1, k3⟩)
        clear k0 k1 k2 k3 d0
        refine wp_region_noPanic (plain_need [0, 1, 2, 3, 4, 5, 6, 7, 8, 9, 10, 11] (fun W' => W'.cell? ⟨(ad.add (i * 4)).block, (ad.add (i * 4)).off + 1, none⟩ = some (.string xu) ∧ W'.cell? ⟨(ad.add (i * 4)).block, (ad.add (i * 4)).off + 3, none⟩ = some (.slice A3 xl.length c3)) (by kernel_rfl) ?_)
        refine wpAnyN_take (i := 0) (v := ?_) rfl (by kernel_rfl) (by kernel_rfl) (by kernel_rfl) (by kernel_rfl) (fun _ _ _ h => h) (.inl ⟨by rfl, ?_⟩) HS0.out ?_
        rotate_left
        · (intro W' hW'; obtain ⟨s0, s1⟩ := hW'; go_simp; try rfl)
        simp only [Act.put, List.setIfInBounds_toArray, List.set_cons_zero, List.set_cons_succ]
        refine wpAnyN_take (i := 1) (v := ?_) rfl (by kernel_rfl) (by kernel_rfl) (by kernel_rfl) (by kernel_rfl) (fun _ _ _ h => h) (.inl ⟨by rfl, ?_⟩) HS0.out ?_
        rotate_left
        · (intro W' hW'; obtain ⟨s0, s1⟩ := hW'; go_simp; try rfl)
        simp only [Act.put, List.setIfInBounds_toArray, List.set_cons_zero, List.set_cons_succ]
        refine wpAnyN_take (i := 2) (v := ?_) rfl (by kernel_rfl) (by kernel_rfl) (by kernel_rfl) (by kernel_rfl) (fun _ _ _ h => h) (.inl ⟨by rfl, ?_⟩) HS0.out ?_
        rotate_left
        · (intro W' hW'; obtain ⟨s0, s1⟩ := hW'; go_simp; try rfl)
        simp only [Act.put, List.setIfInBounds_toArray, List.set_cons_zero, List.set_cons_succ]
        refine wpAnyN_take (i := 3) (v := ?_) rfl (by kernel_rfl) (by kernel_rfl) (by kernel_rfl) (by kernel_rfl) (fun _ _ _ h => h) (.inl ⟨by rfl, ?_⟩) HS0.out ?_
        rotate_left
        · (intro W' hW'; obtain ⟨s0, s1⟩ := hW'; go_simp; try rfl)
        simp only [Act.put, List.setIfInBounds_toArray, List.set_cons_zero, List.set_cons_succ]
        refine wpAnyN_take (i := 4) (v := ?_) rfl (by kernel_rfl) (by kernel_rfl) (by kernel_rfl) (by kernel_rfl) (fun _ _ _ h => h) (.inl ⟨by rfl, ?_⟩) HS0.out ?_
        rotate_left
        · (intro W' hW'; obtain ⟨s0, s1⟩ := hW'; go_simp; try rfl)
        simp only [Act.put, List.setIfInBounds_toArray, List.set_cons_zero, List.set_cons_succ]
        refine wpAnyN_take (i := 5) (v := ?_) rfl (by kernel_rfl) (by kernel_rfl) (by kernel_rfl) (by kernel_rfl) (fun _ _ _ h => h) (.inl ⟨by rfl, ?_⟩) HS0.out ?_
        rotate_left
        · (intro W' hW'; obtain ⟨s0, s1⟩ := hW'; go_simp; try rfl)
        simp only [Act.put, List.setIfInBounds_toArray, List.set_cons_zero, List.set_cons_succ]
        refine wpAnyN_take (i := 6) (v := ?_) rfl (by kernel_rfl) (by kernel_rfl) (by kernel_rfl) (by kernel_rfl) (fun _ _ _ h => h) (.inl ⟨by rfl, ?_⟩) HS0.out ?_
        rotate_left
        · (intro W' hW'; obtain ⟨s0, s1⟩ := hW'; go_simp; try rfl)
        simp only [Act.put, List.setIfInBounds_toArray, List.set_cons_zero, List.set_cons_succ]
        refine wpAnyN_take (i := 7) (v := ?_) rfl (by kernel_rfl) (by kernel_rfl) (by kernel_rfl) (by kernel_rfl) (fun _ _ _ h => h) (.inl ⟨by rfl, ?_⟩) HS0.out ?_
        rotate_left
        · (intro W' hW'; obtain ⟨s0, s1⟩ := hW'; go_simp; try rfl)
        simp only [Act.put, List.setIfInBounds_toArray, List.set_cons_zero, List.set_cons_succ]
        refine wpAnyN_take (i := 8) (v := ?_) rfl (by kernel_rfl) (by kernel_rfl) (by kernel_rfl) (by kernel_rfl) (fun _ _ _ h => h) (.inl ⟨by rfl, ?_⟩) HS0.out ?_
        rotate_left
        · (intro W' hW'; obtain ⟨s0, s1⟩ := hW'; go_simp; try rfl)
        simp only [Act.put, List.setIfInBounds_toArray, List.set_cons_zero, List.set_cons_succ]
        refine wpAnyN_take (i := 9) (v := ?_) rfl (by kernel_rfl) (by kernel_rfl) (by kernel_rfl) (by kernel_rfl) (fun _ _ _ h => h) (.inl ⟨by rfl, ?_⟩) HS0.out ?_
        rotate_left
        · (intro W' hW'; obtain ⟨s0, s1⟩ := hW'; go_simp; try rfl)
        simp only [Act.put, List.setIfInBounds_toArray, List.set_cons_zero, List.set_cons_succ]
        refine wpAnyN_take (i := 10) (v := ?_) rfl (by kernel_rfl) (by kernel_rfl) (by kernel_rfl) (by kernel_rfl) (fun _ _ _ h => h) (.inl ⟨by rfl, ?_⟩) HS0.out ?_
        rotate_left
        · (intro W' hW'; obtain ⟨s0, s1⟩ := hW'; go_simp; try rfl)
        simp only [Act.put, List.setIfInBounds_toArray, List.set_cons_zero, List.set_cons_succ]
        refine wpAnyN_one (i := 11) rfl (by kernel_rfl) (fun K hK => ?_)
        go_simp
        refine (put_cw L2_.out.cw HT.out xu HXU.out A3 c3 xl HL3.out (L2_.out.cw.came (Kd.heap_int .i64) HC3.out) (by have := HXL.out; omega) (by have := HN.out; omega)).mono ?_
        rintro e w5 ⟨rfl, Fp5, hcw, hkp, _⟩
        have L5 := Aside0.mk (L2_.out.move hcw hkp)
        have HA5 := HA.out.below hcw.bel
        have HS1 := Aside0.mk (show w5.cell? ⟨(ad.add (i * 4)).block, (ad.add (i * 4)).off + 1, none⟩ = some (.string xu) ∧ w5.cell? ⟨(ad.add (i * 4)).block, (ad.add (i * 4)).off + 3, none⟩ = some (.slice A3 xl.length c3) from ⟨HA5.u, HA5.l⟩)
        clear hcw hkp HA5
        refine hK.out _ _ (fun _ => HS1.out) (fun _ => ?_)
        clear hK K
        try simp only [Act.put, List.setIfInBounds_toArray, List.set_cons_zero, List.set_cons_succ]
        refine wpAnyN_one (i := 12) rfl (by kernel_rfl) (fun K hK => ?_)
        go_simp
        refine hK.out _ _ (fun h => Bool.noConfusion (show false = true from h)) (fun _ => ?_)
        clear hK K
        try simp only [Act.put, List.setIfInBounds_toArray, List.set_cons_zero, List.set_cons_succ]
        refine wpAnyN_done (by kernel_rfl) (NoPanic.normal ?_) _
        obtain ⟨M5, hM5⟩ : ∃ M5, M5 = putM M xu (dec ((n : Int) + 1), xl) := ⟨_, rfl⟩
        obtain ⟨id5, hid5⟩ : ∃ id5, id5 = dec ((n : Int) + 1) := ⟨_, rfl⟩
        rw [← hM5] at L5
        have HM5 := Aside0.mk hM5
        have HID5 := Aside0.mk hid5
        rw [← hid5]
        clear hM5 hid5 HS1 HS0 L2_
        go_upto_region 15 with (fail)
        go_loopg [11] n (fun kr v11 w' => ∃ k : Nat, v11 = .int .i64 k ∧ k ≤ n ∧ Aside0 (kr = n - k) ∧ w5 = w')
        case atStart => exact ⟨0, rfl, Nat.zero_le _, ⟨rfl⟩, rfl⟩
        case round =>
          obtain ⟨k, rfl, hk, HKR, rfl⟩ := hrel
          by_cases hkn : k < n
          · obtain ⟨ad6, e6, hq⟩ := str_at (Kd.R_reads' L5.out.ri).2.2 k (by rw [HM.out.len]; exact hkn)
            subst e6
            have hcmp : ((ids.getD k ByteArray.empty).toList == id5.toList) = false := by rw [HM.out.at hkn, HID5.out]; exact dec_ne1 (by omega)
            obtain ⟨xi, hxi⟩ : ∃ xi, xi = ids.getD k ByteArray.empty := ⟨_, rfl⟩
            rw [← hxi] at hq hcmp
            clear hxi
            go_wp2
            go_roundg (n - (k + 1))
            case measure => have := HKR.out; omega
            case rel => exact ⟨k + 1, by go_num, by omega, ⟨rfl⟩, rfl⟩
          · have hke : n = k := by omega
            subst hke
            have HYB := Aside0.mk (below_alloc (Below.refl w5.heap.size w5) (.cells #[.string id5] 9))
            obtain ⟨g6, cap6, w6, hrun, hg6, hL6⟩ := (L5.out.below HYB.out).app_i (by have := HN.out; omega) id5 w5.heap.size (heap_alloc_new _ _)
            have L6 := Aside0.mk hL6
            obtain ⟨k0, k1, k2, k3⟩ := HA.out.below hL6.cw.bel
            simp only at k0 k1 k2 k3
            clear hL6 hg6 HYB
            by_cases he : xu.toList = uri.toList
            · have heq : (xu.toList == uri.toList) = true := beq_iff_eq.mpr he
              have HE := Aside0.mk (toList_inj he)
              clear he
              go_upto_region 21 with (at_builtin; refine wpList_append_run rfl _ _ _ rfl hrun ?_)
              refine wp_region_noPanic (plain_need [0, 1, 2, 3, 4, 5, 6, 7, 8, 9, 10, 11, 12] (fun W' => W'.cell? ⟨(ad.add (i * 4)).block, (ad.add (i * 4)).off + 3, none⟩ = some (.slice A3 xl.length c3)) (by kernel_rfl) ?_)
              obtain ⟨wd, hwd⟩ : ∃ wd, wd = w6.drew := ⟨_, rfl⟩
              rw [← hwd]
              have LD := Aside0.mk (show LR W wd Fp5 b (n + 1) M5 (.slice (some ⟨g6, 0, none⟩) (n + 1) cap6) (.slice A7 nm c7) (.slice A8 nm c8) (ids ++ [id5]) (ml.map (·.1)) dat by rw [hwd]; exact L6.out.below (Below.refl _ _).drew)
              have HS0 := Aside0.mk (show wd.cell? ⟨(ad.add (i * 4)).block, (ad.add (i * 4)).off + 3, none⟩ = some (.slice A3 xl.length c3) by rw [hwd]; exact k3)
              clear hwd k0 k1 k2 k3 heq hrun L6 L5
              refine wpAnyN_take (i := 0) (v := ?_) rfl (by kernel_rfl) (by kernel_rfl) (by kernel_rfl) (by kernel_rfl) (fun _ _ _ h => h) (.inl ⟨by rfl, ?_⟩) HS0.out ?_
              rotate_left
              · (intro W' hW'; obtain s0 := hW'; go_simp; try rfl)
              simp only [Act.put, List.setIfInBounds_toArray, List.set_cons_zero, List.set_cons_succ]
              refine wpAnyN_take (i := 1) (v := ?_) rfl (by kernel_rfl) (by kernel_rfl) (by kernel_rfl) (by kernel_rfl) (fun _ _ _ h => h) (.inl ⟨by rfl, ?_⟩) HS0.out ?_
              rotate_left
              · (intro W' hW'; obtain s0 := hW'; go_simp; try rfl)
              simp only [Act.put, List.setIfInBounds_toArray, List.set_cons_zero, List.set_cons_succ]
              refine wpAnyN_take (i := 4) (v := ?_) rfl (by kernel_rfl) (by kernel_rfl) (by kernel_rfl) (by kernel_rfl) (fun _ _ _ h => h) (.inl ⟨by rfl, ?_⟩) HS0.out ?_
              rotate_left
              · (intro W' hW'; obtain s0 := hW'; go_simp; try rfl)
              simp only [Act.put, List.setIfInBounds_toArray, List.set_cons_zero, List.set_cons_succ]
              refine wpAnyN_take (i := 5) (v := ?_) rfl (by kernel_rfl) (by kernel_rfl) (by kernel_rfl) (by kernel_rfl) (fun _ _ _ h => h) (.inl ⟨by rfl, ?_⟩) HS0.out ?_
              rotate_left
              · (intro W' hW'; obtain s0 := hW'; go_simp; try rfl)
              simp only [Act.put, List.setIfInBounds_toArray, List.set_cons_zero, List.set_cons_succ]
              refine wpAnyN_take (i := 6) (v := ?_) rfl (by kernel_rfl) (by kernel_rfl) (by kernel_rfl) (by kernel_rfl) (fun _ _ _ h => h) (.inl ⟨by rfl, ?_⟩) HS0.out ?_
              rotate_left
              · (intro W' hW'; obtain s0 := hW'; go_simp; try rfl)
              simp only [Act.put, List.setIfInBounds_toArray, List.set_cons_zero, List.set_cons_succ]
              refine wpAnyN_take (i := 7) (v := ?_) rfl (by kernel_rfl) (by kernel_rfl) (by kernel_rfl) (by kernel_rfl) (fun _ _ _ h => h) (.inl ⟨by rfl, ?_⟩) HS0.out ?_
              rotate_left
              · (intro W' hW'; obtain s0 := hW'; go_simp; try rfl)
              simp only [Act.put, List.setIfInBounds_toArray, List.set_cons_zero, List.set_cons_succ]
              refine wpAnyN_take (i := 8) (v := ?_) rfl (by kernel_rfl) (by kernel_rfl) (by kernel_rfl) (by kernel_rfl) (fun _ _ _ h => h) (.inl ⟨by rfl, ?_⟩) HS0.out ?_
              rotate_left
              · (intro W' hW'; obtain s0 := hW'; go_simp; try rfl)
              simp only [Act.put, List.setIfInBounds_toArray, List.set_cons_zero, List.set_cons_succ]
              refine wpAnyN_take (i := 9) (v := ?_) rfl (by kernel_rfl) (by kernel_rfl) (by kernel_rfl) (by kernel_rfl) (fun _ _ _ h => h) (.inl ⟨by rfl, ?_⟩) HS0.out ?_
              rotate_left
              · (intro W' hW'; obtain s0 := hW'; go_simp; try rfl)
              simp only [Act.put, List.setIfInBounds_toArray, List.set_cons_zero, List.set_cons_succ]
              refine wpAnyN_two (i := 2) (j := 10) rfl rfl (by kernel_rfl) (fun K hK => ?_) (fun K hK => ?_)
              · go_simp
                obtain ⟨y1, hy1⟩ : ∃ y1, y1 = wd.alloc (.cells #[.string id5] 9) := ⟨_, rfl⟩
                rw [← hy1]
                have HBy1 := Aside0.mk (show Below wd.heap.size wd y1 by rw [hy1]; exact below_alloc (Below.refl _ _) _)
                have Ly1 := Aside0.mk (LD.out.below HBy1.out)
                have HSZy1 := Aside0.mk (show wd.heap.size < y1.heap.size by rw [hy1]; simp)
                have N1y1 := Aside0.mk (show y1.heap[wd.heap.size]? = some (.cells #[.string id5] 9 (0, 0)) by rw [hy1]; exact heap_alloc_new _ _)
                have HSy1 := Aside0.mk (show y1.cell? ⟨(ad.add (i * 4)).block, (ad.add (i * 4)).off + 3, none⟩ = some (.slice A3 xl.length c3) from (HA.out.below Ly1.out.cw.bel).l)
                clear hy1
                refine hK.out _ _ (fun _ => HSy1.out) (fun _ => ?_)
                clear hK K
                try simp only [Act.put, List.setIfInBounds_toArray, List.set_cons_zero, List.set_cons_succ]
                refine wpAnyN_two (i := 3) (j := 10) rfl rfl (by kernel_rfl) (fun K hK => ?_) (fun K hK => ?_)
                · obtain ⟨gv1, capv1, v1, hrunv1, hgv1, hLv1⟩ := Ly1.out.app_m (by have := HN.out; rw [List.length_map]; omega) id5 wd.heap.size N1y1.out
                  have Lv1 := Aside0.mk hLv1
                  have HSv1 := Aside0.mk (show v1.cell? ⟨(ad.add (i * 4)).block, (ad.add (i * 4)).off + 3, none⟩ = some (.slice A3 xl.length c3) from (HA.out.below hLv1.cw.bel).l)
                  clear hLv1 hgv1
                  refine wp_append_run (by rfl) (.tmp 71) (.tmp 73) 56 rfl hrunv1 ?_
                  refine hK.out _ _ (fun _ => HSv1.out) (fun _ => ?_)
                  clear hK K
                  try simp only [Act.put, List.setIfInBounds_toArray, List.set_cons_zero, List.set_cons_succ]
                  clear hrunv1
                  refine wpAnyN_one (i := 10) rfl (by kernel_rfl) (fun K hK => ?_)
                  go_simp
                  obtain ⟨y2, hy2⟩ : ∃ y2, y2 = v1.alloc (.cells #[.slice A3 xl.length c3] 34) := ⟨_, rfl⟩
                  rw [← hy2]
                  have HBy2 := Aside0.mk (show Below v1.heap.size v1 y2 by rw [hy2]; exact below_alloc (Below.refl _ _) _)
                  have Ly2 := Aside0.mk (Lv1.out.below HBy2.out)
                  have HSZy2 := Aside0.mk (show v1.heap.size < y2.heap.size by rw [hy2]; simp)
                  have N2y2 := Aside0.mk (show y2.heap[v1.heap.size]? = some (.cells #[.slice A3 xl.length c3] 34 (0, 0)) by rw [hy2]; exact heap_alloc_new _ _)
                  have HSy2 := Aside0.mk (show y2.cell? ⟨(ad.add (i * 4)).block, (ad.add (i * 4)).off + 3, none⟩ = some (.slice A3 xl.length c3) from (HA.out.below Ly2.out.cw.bel).l)
                  clear hy2
                  refine hK.out _ _ (fun _ => HSy2.out) (fun _ => ?_)
                  clear hK K
                  try simp only [Act.put, List.setIfInBounds_toArray, List.set_cons_zero, List.set_cons_succ]
                  refine wpAnyN_one (i := 11) rfl (by kernel_rfl) (fun K hK => ?_)
                  obtain ⟨gv2, capv2, v2, hrunv2, hgv2, hLv2⟩ := Ly2.out.app_d (by have := HN.out; omega) (.slice A3 xl.length c3) rfl v1.heap.size N2y2.out
                  have Lv2 := Aside0.mk hLv2
                  have HSv2 := Aside0.mk (show v2.cell? ⟨(ad.add (i * 4)).block, (ad.add (i * 4)).off + 3, none⟩ = some (.slice A3 xl.length c3) from (HA.out.below hLv2.cw.bel).l)
                  clear hLv2 hgv2
                  refine wp_append_run (by rfl) (.tmp 75) (.tmp 81) 60 rfl hrunv2 ?_
                  refine hK.out _ _ (fun _ => HSv2.out) (fun _ => ?_)
                  clear hK K
                  try simp only [Act.put, List.setIfInBounds_toArray, List.set_cons_zero, List.set_cons_succ]
                  clear hrunv2
                  refine wpAnyN_one (i := 12) rfl (by kernel_rfl) (fun K hK => ?_)
                  go_simp
                  refine hK.out _ _ (fun _ => HSv2.out) (fun _ => ?_)
                  clear hK K
                  try simp only [Act.put, List.setIfInBounds_toArray, List.set_cons_zero, List.set_cons_succ]
                  refine wpAnyN_one (i := 13) rfl (by kernel_rfl) (fun K hK => ?_)
                  go_simp
                  refine hK.out _ _ (fun h => Bool.noConfusion (show false = true from h)) (fun _ => ?_)
                  clear hK K
                  try simp only [Act.put, List.setIfInBounds_toArray, List.set_cons_zero, List.set_cons_succ]
                  refine wpAnyN_done (by kernel_rfl) (NoPanic.normal ?_) _
                  go_wp2_with fail
                  go_roundg (l0.length - (i + 1))
                  case measure => have := HK.out; omega
                  case rel => exact ⟨i + 1, n + 1, nm + 1, Fp5, M5, ids ++ [id5], ml ++ [(id5, xl)], dat ++ [[.slice A3 xl.length c3]], some ⟨g6, 0, none⟩, cap6, some ⟨gv1, 0, none⟩, capv1, some ⟨gv2, 0, none⟩, capv2, by go_num, by go_num, by go_num, by go_num, by omega, by omega, ⟨by have := HNM.out; simp; omega⟩, ⟨rfl⟩, ⟨by rw [List.map_append]; exact Lv2.out⟩, ⟨by rw [HM5.out, HID5.out, HE.out]; exact HM.out.put xl⟩, ⟨HD.out.snoc (id5, xl) A3 c3 HL3.out HXL.out HC3.out⟩⟩
                · go_simp
                  obtain ⟨y2, hy2⟩ : ∃ y2, y2 = y1.alloc (.cells #[.slice A3 xl.length c3] 34) := ⟨_, rfl⟩
                  rw [← hy2]
                  have HBy2 := Aside0.mk (show Below y1.heap.size y1 y2 by rw [hy2]; exact below_alloc (Below.refl _ _) _)
                  have Ly2 := Aside0.mk (Ly1.out.below HBy2.out)
                  have HSZy2 := Aside0.mk (show y1.heap.size < y2.heap.size by rw [hy2]; simp)
                  have N2y2 := Aside0.mk (show y2.heap[y1.heap.size]? = some (.cells #[.slice A3 xl.length c3] 34 (0, 0)) by rw [hy2]; exact heap_alloc_new _ _)
                  have N1y2 := Aside0.mk (show y2.heap[wd.heap.size]? = some (.cells #[.string id5] 9 (0, 0)) from blk_below N1y1.out HBy2.out)
                  have HSy2 := Aside0.mk (show y2.cell? ⟨(ad.add (i * 4)).block, (ad.add (i * 4)).off + 3, none⟩ = some (.slice A3 xl.length c3) from (HA.out.below Ly2.out.cw.bel).l)
                  clear hy2
                  refine hK.out _ _ (fun _ => HSy2.out) (fun _ => ?_)
                  clear hK K
                  try simp only [Act.put, List.setIfInBounds_toArray, List.set_cons_zero, List.set_cons_succ]
                  refine wpAnyN_one (i := 3) rfl (by kernel_rfl) (fun K hK => ?_)
                  obtain ⟨gv1, capv1, v1, hrunv1, hgv1, hLv1⟩ := Ly2.out.app_m (by have := HN.out; rw [List.length_map]; omega) id5 wd.heap.size N1y2.out
                  have Lv1 := Aside0.mk hLv1
                  have N2v1 := Aside0.mk (show v1.heap[y1.heap.size]? = some (.cells #[.slice A3 xl.length c3] 34 (0, 0)) from (hgv1.block _ (blk_lt N2y2.out) (fun e => row_type Ly2.out.rm N2y2.out (by decide) e.symm)).trans N2y2.out)
                  have HSv1 := Aside0.mk (show v1.cell? ⟨(ad.add (i * 4)).block, (ad.add (i * 4)).off + 3, none⟩ = some (.slice A3 xl.length c3) from (HA.out.below hLv1.cw.bel).l)
                  clear hLv1 hgv1
                  refine wp_append_run (by rfl) (.tmp 71) (.tmp 73) 56 rfl hrunv1 ?_
                  refine hK.out _ _ (fun _ => HSv1.out) (fun _ => ?_)
                  clear hK K
                  try simp only [Act.put, List.setIfInBounds_toArray, List.set_cons_zero, List.set_cons_succ]
                  clear hrunv1
                  refine wpAnyN_one (i := 11) rfl (by kernel_rfl) (fun K hK => ?_)
                  obtain ⟨gv2, capv2, v2, hrunv2, hgv2, hLv2⟩ := Lv1.out.app_d (by have := HN.out; omega) (.slice A3 xl.length c3) rfl y1.heap.size N2v1.out
                  have Lv2 := Aside0.mk hLv2
                  have HSv2 := Aside0.mk (show v2.cell? ⟨(ad.add (i * 4)).block, (ad.add (i * 4)).off + 3, none⟩ = some (.slice A3 xl.length c3) from (HA.out.below hLv2.cw.bel).l)
                  clear hLv2 hgv2
                  refine wp_append_run (by rfl) (.tmp 75) (.tmp 81) 60 rfl hrunv2 ?_
                  refine hK.out _ _ (fun _ => HSv2.out) (fun _ => ?_)
                  clear hK K
                  try simp only [Act.put, List.setIfInBounds_toArray, List.set_cons_zero, List.set_cons_succ]
                  clear hrunv2
                  refine wpAnyN_one (i := 12) rfl (by kernel_rfl) (fun K hK => ?_)
                  go_simp
                  refine hK.out _ _ (fun _ => HSv2.out) (fun _ => ?_)
                  clear hK K
                  try simp only [Act.put, List.setIfInBounds_toArray, List.set_cons_zero, List.set_cons_succ]
                  refine wpAnyN_one (i := 13) rfl (by kernel_rfl) (fun K hK => ?_)
                  go_simp
                  refine hK.out _ _ (fun h => Bool.noConfusion (show false = true from h)) (fun _ => ?_)
                  clear hK K
                  try simp only [Act.put, List.setIfInBounds_toArray, List.set_cons_zero, List.set_cons_succ]
                  refine wpAnyN_done (by kernel_rfl) (NoPanic.normal ?_) _
                  go_wp2_with fail
                  go_roundg (l0.length - (i + 1))
                  case measure => have := HK.out; omega
                  case rel => exact ⟨i + 1, n + 1, nm + 1, Fp5, M5, ids ++ [id5], ml ++ [(id5, xl)], dat ++ [[.slice A3 xl.length c3]], some ⟨g6, 0, none⟩, cap6, some ⟨gv1, 0, none⟩, capv1, some ⟨gv2, 0, none⟩, capv2, by go_num, by go_num, by go_num, by go_num, by omega, by omega, ⟨by have := HNM.out; simp; omega⟩, ⟨rfl⟩, ⟨by rw [List.map_append]; exact Lv2.out⟩, ⟨by rw [HM5.out, HID5.out, HE.out]; exact HM.out.put xl⟩, ⟨HD.out.snoc (id5, xl) A3 c3 HL3.out HXL.out HC3.out⟩⟩
              · go_simp
                obtain ⟨y1, hy1⟩ : ∃ y1, y1 = wd.alloc (.cells #[.slice A3 xl.length c3] 34) := ⟨_, rfl⟩
                rw [← hy1]
                have HBy1 := Aside0.mk (show Below wd.heap.size wd y1 by rw [hy1]; exact below_alloc (Below.refl _ _) _)
                have Ly1 := Aside0.mk (LD.out.below HBy1.out)
                have HSZy1 := Aside0.mk (show wd.heap.size < y1.heap.size by rw [hy1]; simp)
                have N2y1 := Aside0.mk (show y1.heap[wd.heap.size]? = some (.cells #[.slice A3 xl.length c3] 34 (0, 0)) by rw [hy1]; exact heap_alloc_new _ _)
                have HSy1 := Aside0.mk (show y1.cell? ⟨(ad.add (i * 4)).block, (ad.add (i * 4)).off + 3, none⟩ = some (.slice A3 xl.length c3) from (HA.out.below Ly1.out.cw.bel).l)
                clear hy1
                refine hK.out _ _ (fun _ => HSy1.out) (fun _ => ?_)
                clear hK K
                try simp only [Act.put, List.setIfInBounds_toArray, List.set_cons_zero, List.set_cons_succ]
                refine wpAnyN_one (i := 2) rfl (by kernel_rfl) (fun K hK => ?_)
                go_simp
                obtain ⟨y2, hy2⟩ : ∃ y2, y2 = y1.alloc (.cells #[.string id5] 9) := ⟨_, rfl⟩
                rw [← hy2]
                have HBy2 := Aside0.mk (show Below y1.heap.size y1 y2 by rw [hy2]; exact below_alloc (Below.refl _ _) _)
                have Ly2 := Aside0.mk (Ly1.out.below HBy2.out)
                have HSZy2 := Aside0.mk (show y1.heap.size < y2.heap.size by rw [hy2]; simp)
                have N1y2 := Aside0.mk (show y2.heap[y1.heap.size]? = some (.cells #[.string id5] 9 (0, 0)) by rw [hy2]; exact heap_alloc_new _ _)
                have N2y2 := Aside0.mk (show y2.heap[wd.heap.size]? = some (.cells #[.slice A3 xl.length c3] 34 (0, 0)) from blk_below N2y1.out HBy2.out)
                have HSy2 := Aside0.mk (show y2.cell? ⟨(ad.add (i * 4)).block, (ad.add (i * 4)).off + 3, none⟩ = some (.slice A3 xl.length c3) from (HA.out.below Ly2.out.cw.bel).l)
                clear hy2
                refine hK.out _ _ (fun _ => HSy2.out) (fun _ => ?_)
                clear hK K
                try simp only [Act.put, List.setIfInBounds_toArray, List.set_cons_zero, List.set_cons_succ]
                refine wpAnyN_one (i := 3) rfl (by kernel_rfl) (fun K hK => ?_)
                obtain ⟨gv1, capv1, v1, hrunv1, hgv1, hLv1⟩ := Ly2.out.app_m (by have := HN.out; rw [List.length_map]; omega) id5 y1.heap.size N1y2.out
                have Lv1 := Aside0.mk hLv1
                have N2v1 := Aside0.mk (show v1.heap[wd.heap.size]? = some (.cells #[.slice A3 xl.length c3] 34 (0, 0)) from (hgv1.block _ (blk_lt N2y2.out) (fun e => row_type Ly2.out.rm N2y2.out (by decide) e.symm)).trans N2y2.out)
                have HSv1 := Aside0.mk (show v1.cell? ⟨(ad.add (i * 4)).block, (ad.add (i * 4)).off + 3, none⟩ = some (.slice A3 xl.length c3) from (HA.out.below hLv1.cw.bel).l)
                clear hLv1 hgv1
                refine wp_append_run (by rfl) (.tmp 71) (.tmp 73) 56 rfl hrunv1 ?_
                refine hK.out _ _ (fun _ => HSv1.out) (fun _ => ?_)
                clear hK K
                try simp only [Act.put, List.setIfInBounds_toArray, List.set_cons_zero, List.set_cons_succ]
                clear hrunv1
                refine wpAnyN_one (i := 11) rfl (by kernel_rfl) (fun K hK => ?_)
                obtain ⟨gv2, capv2, v2, hrunv2, hgv2, hLv2⟩ := Lv1.out.app_d (by have := HN.out; omega) (.slice A3 xl.length c3) rfl wd.heap.size N2v1.out
                have Lv2 := Aside0.mk hLv2
                have HSv2 := Aside0.mk (show v2.cell? ⟨(ad.add (i * 4)).block, (ad.add (i * 4)).off + 3, none⟩ = some (.slice A3 xl.length c3) from (HA.out.below hLv2.cw.bel).l)
                clear hLv2 hgv2
                refine wp_append_run (by rfl) (.tmp 75) (.tmp 81) 60 rfl hrunv2 ?_
                refine hK.out _ _ (fun _ => HSv2.out) (fun _ => ?_)
                clear hK K
                try simp only [Act.put, List.setIfInBounds_toArray, List.set_cons_zero, List.set_cons_succ]
                clear hrunv2
                refine wpAnyN_one (i := 12) rfl (by kernel_rfl) (fun K hK => ?_)
                go_simp
                refine hK.out _ _ (fun _ => HSv2.out) (fun _ => ?_)
                clear hK K
                try simp only [Act.put, List.setIfInBounds_toArray, List.set_cons_zero, List.set_cons_succ]
                refine wpAnyN_one (i := 13) rfl (by kernel_rfl) (fun K hK => ?_)
                go_simp
                refine hK.out _ _ (fun h => Bool.noConfusion (show false = true from h)) (fun _ => ?_)
                clear hK K
                try simp only [Act.put, List.setIfInBounds_toArray, List.set_cons_zero, List.set_cons_succ]
                refine wpAnyN_done (by kernel_rfl) (NoPanic.normal ?_) _
                go_wp2_with fail
                go_roundg (l0.length - (i + 1))
                case measure => have := HK.out; omega
                case rel => exact ⟨i + 1, n + 1, nm + 1, Fp5, M5, ids ++ [id5], ml ++ [(id5, xl)], dat ++ [[.slice A3 xl.length c3]], some ⟨g6, 0, none⟩, cap6, some ⟨gv1, 0, none⟩, capv1, some ⟨gv2, 0, none⟩, capv2, by go_num, by go_num, by go_num, by go_num, by omega, by omega, ⟨by have := HNM.out; simp; omega⟩, ⟨rfl⟩, ⟨by rw [List.map_append]; exact Lv2.out⟩, ⟨by rw [HM5.out, HID5.out, HE.out]; exact HM.out.put xl⟩, ⟨HD.out.snoc (id5, xl) A3 c3 HL3.out HXL.out HC3.out⟩⟩
            · have heq : (xu.toList == uri.toList) = false := beq_eq_false_iff_ne.mpr he
              have HE := Aside0.mk (show ¬ uri = xu from fun e => he (by rw [e]))
              clear he
              go_wp2_with (at_builtin; refine wpList_append_run rfl _ _ _ rfl hrun ?_)
              go_roundg (l0.length - (i + 1))
              case measure => have := HK.out; omega
              case rel => exact ⟨i + 1, n + 1, nm, Fp5, M5, ids ++ [id5], ml, dat, some ⟨g6, 0, none⟩, cap6, A7, c7, A8, c8, by go_num, by go_num, by go_num, by go_num, by omega, by omega, ⟨HNM.out⟩, ⟨rfl⟩, L6, ⟨by rw [HM5.out, HID5.out]; exact HM.out.other HE.out _⟩, HD⟩
      · by_cases hk1 : xk = 1
        · have d0 : (xk == 0) = false := by simp [hk0]
          have d1 : (xk == 1) = true := by simp [hk1]
          clear hk0 hk1
          go_upto_region 23 with (fail)
          have L2_ := Aside0.mk (LL.out.below (W' := wr.drew) (Below.refl _ _).drew)
          have HS0 := Aside0.mk (show wr.drew.cell? ⟨(ad.add (i * 4)).block, (ad.add (i * 4)).off + 1, none⟩ = some (.string xu) ∧ wr.drew.cell? ⟨(ad.add (i * 4)).block, (ad.add (i * 4)).off + 2, none⟩ = some (.string xd) from ⟨k1, k2⟩)
          clear k0 k1 k2 k3 d0 d1
          refine wp_region_noPanic (plain_need [0, 1, 2, 3, 4, 5, 6, 7, 8, 9, 10, 11] (fun W' => W'.cell? ⟨(ad.add (i * 4)).block, (ad.add (i * 4)).off + 1, none⟩ = some (.string xu) ∧ W'.cell? ⟨(ad.add (i * 4)).block, (ad.add (i * 4)).off + 2, none⟩ = some (.string xd)) (by kernel_rfl) ?_)
          refine wpAnyN_take (i := 0) (v := ?_) rfl (by kernel_rfl) (by kernel_rfl) (by kernel_rfl) (by kernel_rfl) (fun _ _ _ h => h) (.inl ⟨by rfl, ?_⟩) HS0.out ?_
          rotate_left
          · (intro W' hW'; obtain ⟨s0, s1⟩ := hW'; go_simp; try rfl)
          simp only [Act.put, List.setIfInBounds_toArray, List.set_cons_zero, List.set_cons_succ]
          refine wpAnyN_take (i := 1) (v := ?_) rfl (by kernel_rfl) (by kernel_rfl) (by kernel_rfl) (by kernel_rfl) (fun _ _ _ h => h) (.inl ⟨by rfl, ?_⟩) HS0.out ?_
          rotate_left
          · (intro W' hW'; obtain ⟨s0, s1⟩ := hW'; go_simp; try rfl)
          simp only [Act.put, List.setIfInBounds_toArray, List.set_cons_zero, List.set_cons_succ]
          refine wpAnyN_take (i := 2) (v := ?_) rfl (by kernel_rfl) (by kernel_rfl) (by kernel_rfl) (by kernel_rfl) (fun _ _ _ h => h) (.inl ⟨by rfl, ?_⟩) HS0.out ?_
          rotate_left
          · (intro W' hW'; obtain ⟨s0, s1⟩ := hW'; go_simp; try rfl)
          simp only [Act.put, List.setIfInBounds_toArray, List.set_cons_zero, List.set_cons_succ]
          refine wpAnyN_take (i := 3) (v := ?_) rfl (by kernel_rfl) (by kernel_rfl) (by kernel_rfl) (by kernel_rfl) (fun _ _ _ h => h) (.inl ⟨by rfl, ?_⟩) HS0.out ?_
          rotate_left
          · (intro W' hW'; obtain ⟨s0, s1⟩ := hW'; go_simp; try rfl)
          simp only [Act.put, List.setIfInBounds_toArray, List.set_cons_zero, List.set_cons_succ]
          refine wpAnyN_take (i := 4) (v := ?_) rfl (by kernel_rfl) (by kernel_rfl) (by kernel_rfl) (by kernel_rfl) (fun _ _ _ h => h) (.inl ⟨by rfl, ?_⟩) HS0.out ?_
          rotate_left
          · (intro W' hW'; obtain ⟨s0, s1⟩ := hW'; go_simp; try rfl)
          simp only [Act.put, List.setIfInBounds_toArray, List.set_cons_zero, List.set_cons_succ]
          refine wpAnyN_take (i := 5) (v := ?_) rfl (by kernel_rfl) (by kernel_rfl) (by kernel_rfl) (by kernel_rfl) (fun _ _ _ h => h) (.inl ⟨by rfl, ?_⟩) HS0.out ?_
          rotate_left
          · (intro W' hW'; obtain ⟨s0, s1⟩ := hW'; go_simp; try rfl)
          simp only [Act.put, List.setIfInBounds_toArray, List.set_cons_zero, List.set_cons_succ]
          refine wpAnyN_take (i := 6) (v := ?_) rfl (by kernel_rfl) (by kernel_rfl) (by kernel_rfl) (by kernel_rfl) (fun _ _ _ h => h) (.inl ⟨by rfl, ?_⟩) HS0.out ?_
          rotate_left
          · (intro W' hW'; obtain ⟨s0, s1⟩ := hW'; go_simp; try rfl)
          simp only [Act.put, List.setIfInBounds_toArray, List.set_cons_zero, List.set_cons_succ]
          refine wpAnyN_take (i := 7) (v := ?_) rfl (by kernel_rfl) (by kernel_rfl) (by kernel_rfl) (by kernel_rfl) (fun _ _ _ h => h) (.inl ⟨by rfl, ?_⟩) HS0.out ?_
          rotate_left
          · (intro W' hW'; obtain ⟨s0, s1⟩ := hW'; go_simp; try rfl)
          simp only [Act.put, List.setIfInBounds_toArray, List.set_cons_zero, List.set_cons_succ]
          refine wpAnyN_take (i := 8) (v := ?_) rfl (by kernel_rfl) (by kernel_rfl) (by kernel_rfl) (by kernel_rfl) (fun _ _ _ h => h) (.inl ⟨by rfl, ?_⟩) HS0.out ?_
          rotate_left
          · (intro W' hW'; obtain ⟨s0, s1⟩ := hW'; go_simp; try rfl)
          simp only [Act.put, List.setIfInBounds_toArray, List.set_cons_zero, List.set_cons_succ]
          refine wpAnyN_take (i := 9) (v := ?_) rfl (by kernel_rfl) (by kernel_rfl) (by kernel_rfl) (by kernel_rfl) (fun _ _ _ h => h) (.inl ⟨by rfl, ?_⟩) HS0.out ?_
          rotate_left
          · (intro W' hW'; obtain ⟨s0, s1⟩ := hW'; go_simp; try rfl)
          simp only [Act.put, List.setIfInBounds_toArray, List.set_cons_zero, List.set_cons_succ]
          refine wpAnyN_take (i := 10) (v := ?_) rfl (by kernel_rfl) (by kernel_rfl) (by kernel_rfl) (by kernel_rfl) (fun _ _ _ h => h) (.inl ⟨by rfl, ?_⟩) HS0.out ?_
          rotate_left
          · (intro W' hW'; obtain ⟨s0, s1⟩ := hW'; go_simp; try rfl)
          simp only [Act.put, List.setIfInBounds_toArray, List.set_cons_zero, List.set_cons_succ]
          refine wpAnyN_one (i := 11) rfl (by kernel_rfl) (fun K hK => ?_)
          go_simp
          refine (get_cw L2_.out.cw xu xd HXU.out).mono ?_
          rintro e w5 ⟨A5, c5, rfl, hc_, hF_, hR_, hcw_, hb_⟩
          have L5 := Aside0.mk (L2_.out.below hb_)
          have HA5 := HA.out.below hcw_.bel
          have HS1 := Aside0.mk (show w5.cell? ⟨(ad.add (i * 4)).block, (ad.add (i * 4)).off + 1, none⟩ = some (.string xu) ∧ w5.cell? ⟨(ad.add (i * 4)).block, (ad.add (i * 4)).off + 2, none⟩ = some (.string xd) from ⟨HA5.u, HA5.d⟩)
          clear hc_ hF_ hR_ hcw_ hb_ HA5
          refine hK.out _ _ (fun _ => HS1.out) (fun _ => ?_)
          clear hK K
          try simp only [Act.put, List.setIfInBounds_toArray, List.set_cons_zero, List.set_cons_succ]
          refine wpAnyN_done (by kernel_rfl) (NoPanic.normal ?_) _
          go_wp2_with fail
          go_roundg (l0.length - (i + 1))
          case measure => have := HK.out; omega
          case rel => exact ⟨i + 1, n, nm, Fp, M, ids, ml, dat, A6, c6, A7, c7, A8, c8, by go_num, by go_num, by go_num, by go_num, by omega, by omega, ⟨HNM.out⟩, ⟨rfl⟩, L5, HM, HD⟩
        · by_cases hk2 : xk = 2
          · have d0 : (xk == 0) = false := by simp [hk0]
            have d1 : (xk == 1) = false := by simp [hk1]
            have d2 : (xk == 2) = true := by simp [hk2]
            clear hk0 hk1 hk2
            go_upto_region 26 with (go_at_call 10; refine (drop_cw LL.out.cw xu HXU.out).mono ?_; rintro e w5 ⟨rfl, hcw, hkp, _⟩; have L5 := Aside0.mk (LL.out.move hcw hkp); clear hcw hkp)
            obtain ⟨k0, k1, k2, k3⟩ := HA.out.below L5.out.cw.bel
            simp only at k0 k1 k2 k3
            by_cases he : xu.toList = uri.toList
            · have heq : (xu.toList == uri.toList) = true := beq_iff_eq.mpr he
              have HE := Aside0.mk (toList_inj he)
              clear he
              go_wp2
              go_roundg (l0.length - (i + 1))
              case measure => have := HK.out; omega
              case rel => exact ⟨i + 1, n, 0, Fp, _, ids, [], [], A6, c6, none, 0, none, 0, by go_num, by go_num, by go_num, by go_num, by omega, by omega, ⟨rfl⟩, ⟨rfl⟩, ⟨L5.out.nil⟩, ⟨by rw [HE.out]; exact HM.out.drop⟩, ⟨rfl, fun j r hj => by simp at hj⟩⟩
            · have heq : (xu.toList == uri.toList) = false := beq_eq_false_iff_ne.mpr he
              have HE := Aside0.mk (show ¬ uri = xu from fun e => he (by rw [e]))
              clear he
              go_wp2
              go_roundg (l0.length - (i + 1))
              case measure => have := HK.out; omega
              case rel => exact ⟨i + 1, n, nm, Fp, _, ids, ml, dat, A6, c6, A7, c7, A8, c8, by go_num, by go_num, by go_num, by go_num, by omega, by omega, ⟨HNM.out⟩, ⟨rfl⟩, L5, ⟨HM.out.away HE.out⟩, HD⟩
          · have d0 : (xk == 0) = false := by simp [hk0]
            have d1 : (xk == 1) = false := by simp [hk1]
            have d2 : (xk == 2) = false := by simp [hk2]
            clear hk0 hk1 hk2
            go_wp2
            go_roundg (l0.length - (i + 1))
            case measure => have := HK.out; omega
            case rel => exact ⟨i + 1, n, nm, Fp, M, ids, ml, dat, A6, c6, A7, c7, A8, c8, by go_num, by go_num, by go_num, by go_num, by omega, by omega, ⟨HNM.out⟩, ⟨rfl⟩, LL, HM, HD⟩
    · have hie : i = l0.length := by omega
      subst hie
      have HIL := Aside0.mk (show n = ids.length from HM.out.len.symm)
      by_cases c4 : 4 < nm
      · obtain ⟨q, hq⟩ : ∃ q, nm = q + 4 := ⟨nm - 4, by omega⟩
        subst hq
        obtain ⟨m, hm⟩ : ∃ m, m = 4 := ⟨_, rfl⟩
        have hd4 : (4 : Int) < (q : Int) + 4 := by omega
        have hd4a : 4 < q + 4 := c4
        have hq0 : 0 < q := by omega
        have hq4 : q + 4 ≤ 400 := HN.out.2.2.1
        obtain ⟨h7n, h7c, h7⟩ := Kd.R_reads' LL.out.rm
        obtain ⟨h8n, h8c, h8⟩ := Kd.R_reads' LL.out.rd
        have hnm := HNM.out
        have e7 := Kd.C_drop (m := q) (c := c7) h7 (by rw [← h7n]; omega) (by rw [← h7n]; exact h7c)
        have e8 := Kd.C_drop (m := q) (c := c8) h8 (by rw [← h8n]; omega) (by rw [← h8n]; exact h8c)
        rw [if_neg (by omega)] at e7 e8
        obtain ⟨ad7, ea7, _⟩ := h7.2.2 (by rw [← h7n]; omega)
        obtain ⟨ad8, ea8, _⟩ := h8.2.2 (by rw [← h8n]; omega)
        subst ea7 ea8
        obtain ⟨kl, hkl⟩ : ∃ kl, kl = ml.drop q := ⟨_, rfl⟩
        obtain ⟨kd, hkd⟩ : ∃ kd, kd = dat.drop q := ⟨_, rfl⟩
        have E7 := Aside0.mk (C_at (l' := kl.map (·.1)) (B := some (ad7.add q)) e7 (by show some (ad7.add (q * 1)) = some (ad7.add q); rw [Nat.mul_one]) (by rw [hkl, List.map_drop]))
        have E8 := Aside0.mk (C_at (l' := kd) (B := some (ad8.add q)) e8 (by show some (ad8.add (q * 1)) = some (ad8.add q); rw [Nat.mul_one]) hkd.symm)
        have HMU := Aside0.mk (show M uri = kl by rw [HM.out.mu, hkl]; congr 1; omega)
        have HDK := Aside0.mk (show DatOk W kd kl by rw [hkd, hkl]; exact HD.out.drop q)
        have HPW := Aside0.mk (show kl.Pairwise (fun a b => (a.1.toList == b.1.toList) = false) by rw [hkl]; exact HM.out.pw.sublist (List.drop_sublist _ _))
        have Hm := Aside0.mk (show m = kl.length by rw [hkl, List.length_drop]; omega)
        have HM4 := Aside0.mk (show m ≤ 400 by omega)
        have HC7 := Aside0.mk (show m ≤ c7 - q by omega)
        clear e7 e8 h7 h8 hkl hkd
        have hq7 : ¬ c7 = q := by omega
        have hq8 : ¬ c8 = q := by omega
        have hqI : (q : Int) ≤ (q : Int) + 4 := by omega
        have hwq : IntKind.i64.wrap (q : Int) = (q : Int) := IntWalk.i64_in _ (by omega)
        have hqm : q + 4 - q = m := by omega
        clear h7n h8n h7c h8c hnm hm c4
        go_upto_region 29 with (fail)
        refine wp_region_noPanic (plain_need [0, 1, 2, 3, 4, 5, 6, 7, 8, 9, 10] (fun _ => True) (by kernel_rfl) ?_)
        refine wpAnyN_take (i := 0) (v := ?_) rfl (by kernel_rfl) (by kernel_rfl) (by kernel_rfl) (by kernel_rfl) (fun _ _ _ h => h) (.inl ⟨by rfl, ?_⟩) trivial ?_
        rotate_left
        · (intro W' hW'; obtain _ := hW'; go_simp; try rfl)
        simp only [Act.put, List.setIfInBounds_toArray, List.set_cons_zero, List.set_cons_succ]
        refine wpAnyN_take (i := 1) (v := ?_) rfl (by kernel_rfl) (by kernel_rfl) (by kernel_rfl) (by kernel_rfl) (fun _ _ _ h => h) (.inl ⟨by rfl, ?_⟩) trivial ?_
        rotate_left
        · (intro W' hW'; obtain _ := hW'; go_simp; try rfl)
        simp only [Act.put, List.setIfInBounds_toArray, List.set_cons_zero, List.set_cons_succ]
        refine wpAnyN_take (i := 2) (v := ?_) rfl (by kernel_rfl) (by kernel_rfl) (by kernel_rfl) (by kernel_rfl) (fun _ _ _ h => h) (.inl ⟨by rfl, ?_⟩) trivial ?_
        rotate_left
        · (intro W' hW'; obtain _ := hW'; go_simp; try rfl)
        simp only [Act.put, List.setIfInBounds_toArray, List.set_cons_zero, List.set_cons_succ]
        refine wpAnyN_take (i := 3) (v := ?_) rfl (by kernel_rfl) (by kernel_rfl) (by kernel_rfl) (by kernel_rfl) (fun _ _ _ h => h) (.inl ⟨by rfl, ?_⟩) trivial ?_
        rotate_left
        · (intro W' hW'; obtain _ := hW'; go_simp; try rfl)
        simp only [Act.put, List.setIfInBounds_toArray, List.set_cons_zero, List.set_cons_succ]
        refine wpAnyN_take (i := 4) (v := ?_) rfl (by kernel_rfl) (by kernel_rfl) (by kernel_rfl) (by kernel_rfl) (fun _ _ _ h => h) (.inl ⟨by rfl, ?_⟩) trivial ?_
        rotate_left
        · (intro W' hW'; go_simp; try rfl)
        simp only [Act.put, List.setIfInBounds_toArray, List.set_cons_zero, List.set_cons_succ]
        refine wpAnyN_take (i := 5) (v := ?_) rfl (by kernel_rfl) (by kernel_rfl) (by kernel_rfl) (by kernel_rfl) (fun _ _ _ h => h) (.inl ⟨by rfl, ?_⟩) trivial ?_
        rotate_left
        · (intro W' hW'; obtain _ := hW'; go_simp; try rfl)
        simp only [Act.put, List.setIfInBounds_toArray, List.set_cons_zero, List.set_cons_succ]
        refine wpAnyN_take (i := 6) (v := ?_) rfl (by kernel_rfl) (by kernel_rfl) (by kernel_rfl) (by kernel_rfl) (fun _ _ _ h => h) (.inl ⟨by rfl, ?_⟩) trivial ?_
        rotate_left
        · (intro W' hW'; obtain _ := hW'; go_simp; try rfl)
        simp only [Act.put, List.setIfInBounds_toArray, List.set_cons_zero, List.set_cons_succ]
        refine wpAnyN_take (i := 7) (v := ?_) rfl (by kernel_rfl) (by kernel_rfl) (by kernel_rfl) (by kernel_rfl) (fun _ _ _ h => h) (.inl ⟨by rfl, ?_⟩) trivial ?_
        rotate_left
        · (intro W' hW'; obtain _ := hW'; go_simp; try rfl)
        simp only [Act.put, List.setIfInBounds_toArray, List.set_cons_zero, List.set_cons_succ]
        refine wpAnyN_take (i := 8) (v := ?_) rfl (by kernel_rfl) (by kernel_rfl) (by kernel_rfl) (by kernel_rfl) (fun _ _ _ h => h) (.inl ⟨by rfl, ?_⟩) trivial ?_
        rotate_left
        · (intro W' hW'; obtain _ := hW'; go_simp; try rfl)
        simp only [Act.put, List.setIfInBounds_toArray, List.set_cons_zero, List.set_cons_succ]
        refine wpAnyN_take (i := 9) (v := ?_) rfl (by kernel_rfl) (by kernel_rfl) (by kernel_rfl) (by kernel_rfl) (fun _ _ _ h => h) (.inl ⟨by rfl, ?_⟩) trivial ?_
        rotate_left
        · (intro W' hW'; go_simp; try rfl)
        simp only [Act.put, List.setIfInBounds_toArray, List.set_cons_zero, List.set_cons_succ]
        refine wpAnyN_one (i := 10) rfl (by kernel_rfl) (fun K hK => ?_)
        go_simp
        refine hK.out _ _ (fun _ => trivial) (fun _ => ?_)
        clear hK K
        try simp only [Act.put, List.setIfInBounds_toArray, List.set_cons_zero, List.set_cons_succ]
        refine wpAnyN_one (i := 11) rfl (by kernel_rfl) (fun K hK => ?_)
        go_simp
        refine hK.out _ _ (fun h => Bool.noConfusion (show false = true from h)) (fun _ => ?_)
        clear hK K
        try simp only [Act.put, List.setIfInBounds_toArray, List.set_cons_zero, List.set_cons_succ]
        refine wpAnyN_done (by kernel_rfl) (NoPanic.normal ?_) _
        obtain ⟨wz, hwz⟩ : ∃ wz, wz = wr.drew := ⟨_, rfl⟩
        rw [← hwz]
        have HBD := Aside0.mk (show Below wr.heap.size wr wz by rw [hwz]; exact (Below.refl _ _).drew)
        have CZ := Aside0.mk (LL.out.cw.below HBD.out)
        have RI := Aside0.mk (Kd.C_below (Kd.R_reads' LL.out.ri).2.2 HBD.out)
        have K7 := Aside0.mk (Kd.C_below E7.out HBD.out)
        have K8 := Aside0.mk (Kd.C_below E8.out HBD.out)
        clear hwz hd4 hd4a hq0 hq4 hq7 hq8 hqm hqI hwq E7 E8 LL
        obtain ⟨km, hkm_⟩ : ∃ km, km = kl.map (·.1) := ⟨_, rfl⟩
        have HKM := Aside0.mk hkm_
        have HMK := Aside0.mk (show (M uri).map (·.1) = km by rw [HMU.out, hkm_])
        rw [← hkm_] at K7
        clear hkm_
        have Hm2 := Aside0.mk (show m = km.length by rw [HKM.out, List.length_map]; exact Hm.out)
        obtain ⟨KT, hKT⟩ := sameT_self km (by rw [← Hm2.out]; have := HM4.out; omega)
        have HKT := Aside0.mk hKT
        clear hKT
        go_upto_region 33 with (first | (go_at_call 13; refine (kept_cw CZ.out uri HU.out).mono ?_; rintro e w8 ⟨Ak, ck, he_, hc_, hF_, hcw_, hb_⟩; rw [HMK.out] at he_ hc_ hF_; subst he_; have HFk := Aside0.mk hF_; have HCk := Aside0.mk hc_; have HB8 := Aside0.mk hb_; clear hc_ hF_ hcw_ hb_) | (go_at_call 15; refine (sameT_m KT Ak ck (some (ad7.add q)) m (c7 - q) km w8 (Kd.F_now HFk.out) HCk.out (Kd.C_below K7.out HB8.out) Hm2.out HC7.out HKT.out).mono ?_; rintro e w9 ⟨rfl, hd_⟩; have HB9 := Aside0.mk (HB8.out.trans (hd_.below.mono HB8.out.size)); clear hd_ HB8))
        go_loopg [12] n (fun kj v12 w' => ∃ j : Nat, v12 = .int .i64 j ∧ j ≤ n ∧ Aside0 (kj = n - j) ∧ Aside0 (Below wz.heap.size wz w'))
        case atStart => exact ⟨0, rfl, Nat.zero_le _, ⟨rfl⟩, HB9⟩
        case round =>
          obtain ⟨j, rfl, hj, HKJ, HBJ⟩ := hrel
          by_cases hjn : j < n
          · obtain ⟨ad6, e6, hq_⟩ := str_at (Kd.C_below RI.out HBJ.out) j (by rw [← HIL.out]; exact hjn)
            subst e6
            obtain ⟨xj, hxj⟩ : ∃ xj, xj = ids.getD j ByteArray.empty := ⟨_, rfl⟩
            rw [← hxj] at hq_
            have HXJ := Aside0.mk hxj
            clear hxj
            obtain ⟨gl, hgl⟩ : ∃ gl, gl = (fnd kl xj).elim [] (·.2) := ⟨_, rfl⟩
            obtain ⟨gb, hgb⟩ : ∃ gb, gb = (fnd kl xj).isSome := ⟨_, rfl⟩
            have HGL := Aside0.mk hgl
            have HGB := Aside0.mk hgb
            have HGN := Aside0.mk (show gl.length ≤ 20000 by rw [hgl]; exact fnd_len HDK.out xj)
            clear hgl hgb
            have CJ := Aside0.mk (CZ.out.below HBJ.out)
            go_upto_region 36 with (go_at_call 11; refine (get_cw CJ.out uri xj HU.out).mono ?_; rintro e w10 ⟨Ag, cg, he_, hc_, hF_, hR_, hcw_, hb_⟩; rw [HMU.out, ← HGL.out] at he_ hc_ hF_; rw [← HGB.out] at he_; subst he_; have HFg := Aside0.mk (Kd.F_now hF_); have HCg := Aside0.mk hc_; have HB10 := Aside0.mk (HBJ.out.trans (hb_.mono HBJ.out.size)); clear hc_ hF_ hR_ hcw_ hb_)
            obtain ⟨w11, hw11⟩ : ∃ w11, w11 = w10.alloc (.cells #[] 3) := ⟨_, rfl⟩
            have HB11 := Aside0.mk (show Below w10.heap.size w10 w11 by rw [hw11]; exact below_alloc (Below.refl _ _) _)
            have HW11 := Aside0.mk hw11
            clear hw11 hq_
            go_upto_region 38 with (fail)
            go_loopg [15, 16, 17] m (fun kr v15 v16 v17 w' => ∃ (k : Nat) (Aw : Option Addr) (cw : Nat) (lw : List Int) (hb : Bool), v15 = .slice Aw lw.length cw ∧ v16 = .bool hb ∧ v17 = .int .i64 k ∧ k ≤ m ∧ Aside0 (kr = m - k) ∧ Aside0 (lw = (fnd (kl.take k) xj).elim [] (·.2)) ∧ Aside0 (hb = (fnd (kl.take k) xj).isSome) ∧ Aside0 (Kd.C (Kd.int .i64) W Aw lw.length lw) ∧ Aside0 (lw.length ≤ cw) ∧ Aside0 (Below w11.heap.size w11 w'))
            case atStart => exact ⟨0, some ⟨w10.heap.size, 0, none⟩, 0, [], false, rfl, rfl, rfl, Nat.zero_le _, ⟨rfl⟩, ⟨rfl⟩, ⟨rfl⟩, ⟨C_nil_ _ _ _⟩, ⟨Nat.le_refl _⟩, ⟨by rw [HW11.out]; exact Below.refl _ _⟩⟩
            case round =>
              obtain ⟨k, Aw, cw, lw, hb, rfl, rfl, rfl, hk, HKR, HLW, HHB, HCW, HLC, HBW⟩ := hrel
              have HZ := Aside0.mk ((HB10.out.trans (HB11.out.mono HB10.out.size)).trans (HBW.out.mono (HB10.out.trans (HB11.out.mono HB10.out.size)).size))
              have hm4 := HM4.out
              by_cases hkm : k < m
              · have hkl : k < kl.length := by rw [← Hm.out]; exact hkm
                obtain ⟨r, hr⟩ : ∃ r, kl[k]? = some r := ⟨_, List.getElem?_eq_getElem hkl⟩
                obtain ⟨As, cs, hd1, hd2, hd3, hd4⟩ := HDK.out.2 k r hr
                obtain ⟨a7_, e7_, q7⟩ := str_at (Kd.C_below K7.out HZ.out) k (by rw [← Hm2.out]; exact hkm)
                rw [HKM.out, List.getD_eq_getElem?_getD, List.getElem?_map, hr] at q7
                simp only [Option.map_some, Option.getD_some] at q7
                obtain ⟨a8_, e8_, q8⟩ := raw_at (Kd.C_below K8.out HZ.out) k (by rw [HDK.out.1]; exact hkl) _ hd1
                obtain ⟨a6_, e6_, q6⟩ := str_at (Kd.C_below RI.out HZ.out) j (by rw [← HIL.out]; exact hjn)
                have q6x := HXJ.out
                rw [← q6x] at q6
                clear q6x
                obtain ⟨rs, rl⟩ := r
                simp only at q7 q8 hd2 hd3 hd4
                injection e7_ with e7_
                subst e7_
                injection e8_ with e8_
                subst e8_
                injection e6_ with e6_
                subst e6_
                have HR := Aside0.mk hr
                have HD2 := Aside0.mk hd2
                have HD4 := Aside0.mk hd4
                clear hr hd1 hd2 hd3 hd4
                have Q8 := Aside0.mk q8
                have hft := fnd_take HPW.out xj k (rs, rl) HR.out
                have HFT := Aside0.mk hft
                clear hft
                go_upto_region 40 with (fail)
                have HS0 := Aside0.mk (show wr.drew.cell? ((ad7.add q).add k) = some (.string rs) ∧ wr.drew.cell? (ad6.add j) = some (.string xj) from ⟨q7, q6⟩)
                clear q6 q7 q8
                refine wp_region_noPanic (plain_need [0, 1, 2, 3, 4, 5, 6, 7, 8] (fun W' => W'.cell? ((ad7.add q).add k) = some (.string rs) ∧ W'.cell? (ad6.add j) = some (.string xj)) (by kernel_rfl) ?_)
                refine wpAnyN_take (i := 0) (v := ?_) rfl (by kernel_rfl) (by kernel_rfl) (by kernel_rfl) (by kernel_rfl) (fun _ _ _ h => h) (.inl ⟨by rfl, ?_⟩) HS0.out ?_
                rotate_left
                · (intro W' hW'; obtain ⟨s0, s1⟩ := hW'; go_simp; try rfl)
                simp only [Act.put, List.setIfInBounds_toArray, List.set_cons_zero, List.set_cons_succ]
                refine wpAnyN_take (i := 1) (v := ?_) rfl (by kernel_rfl) (by kernel_rfl) (by kernel_rfl) (by kernel_rfl) (fun _ _ _ h => h) (.inl ⟨by rfl, ?_⟩) HS0.out ?_
                rotate_left
                · (intro W' hW'; obtain ⟨s0, s1⟩ := hW'; go_simp; try rfl)
                simp only [Act.put, List.setIfInBounds_toArray, List.set_cons_zero, List.set_cons_succ]
                refine wpAnyN_take (i := 2) (v := ?_) rfl (by kernel_rfl) (by kernel_rfl) (by kernel_rfl) (by kernel_rfl) (fun _ _ _ h => h) (.inl ⟨by rfl, ?_⟩) HS0.out ?_
                rotate_left
                · (intro W' hW'; obtain ⟨s0, s1⟩ := hW'; go_simp; try rfl)
                simp only [Act.put, List.setIfInBounds_toArray, List.set_cons_zero, List.set_cons_succ]
                refine wpAnyN_take (i := 3) (v := ?_) rfl (by kernel_rfl) (by kernel_rfl) (by kernel_rfl) (by kernel_rfl) (fun _ _ _ h => h) (.inl ⟨by rfl, ?_⟩) HS0.out ?_
                rotate_left
                · (intro W' hW'; obtain ⟨s0, s1⟩ := hW'; go_simp; try rfl)
                simp only [Act.put, List.setIfInBounds_toArray, List.set_cons_zero, List.set_cons_succ]
                refine wpAnyN_take (i := 4) (v := ?_) rfl (by kernel_rfl) (by kernel_rfl) (by kernel_rfl) (by kernel_rfl) (fun _ _ _ h => h) (.inl ⟨by rfl, ?_⟩) HS0.out ?_
                rotate_left
                · (intro W' hW'; obtain ⟨s0, s1⟩ := hW'; go_simp; try rfl)
                simp only [Act.put, List.setIfInBounds_toArray, List.set_cons_zero, List.set_cons_succ]
                refine wpAnyN_take (i := 5) (v := ?_) rfl (by kernel_rfl) (by kernel_rfl) (by kernel_rfl) (by kernel_rfl) (fun _ _ _ h => h) (.inl ⟨by rfl, ?_⟩) HS0.out ?_
                rotate_left
                · (intro W' hW'; obtain ⟨s0, s1⟩ := hW'; go_simp; try rfl)
                simp only [Act.put, List.setIfInBounds_toArray, List.set_cons_zero, List.set_cons_succ]
                refine wpAnyN_take (i := 6) (v := ?_) rfl (by kernel_rfl) (by kernel_rfl) (by kernel_rfl) (by kernel_rfl) (fun _ _ _ h => h) (.inl ⟨by rfl, ?_⟩) HS0.out ?_
                rotate_left
                · (intro W' hW'; obtain ⟨s0, s1⟩ := hW'; go_simp; try rfl)
                simp only [Act.put, List.setIfInBounds_toArray, List.set_cons_zero, List.set_cons_succ]
                refine wpAnyN_take (i := 7) (v := ?_) rfl (by kernel_rfl) (by kernel_rfl) (by kernel_rfl) (by kernel_rfl) (fun _ _ _ h => h) (.inl ⟨by rfl, ?_⟩) HS0.out ?_
                rotate_left
                · (intro W' hW'; obtain ⟨s0, s1⟩ := hW'; go_simp; try rfl)
                simp only [Act.put, List.setIfInBounds_toArray, List.set_cons_zero, List.set_cons_succ]
                have HBD := Aside0.mk (show Below w11.heap.size w11 wr.drew from HBW.out.trans ((Below.refl _ _).drew))
                have q8 : wr.drew.cell? _ = _ := Q8.out
                refine wpAnyN_one (i := 8) rfl (by kernel_rfl) (fun K hK => ?_)
                go_simp
                refine hK.out _ _ (fun _ => HS0.out) (fun _ => ?_)
                clear hK K
                try simp only [Act.put, List.setIfInBounds_toArray, List.set_cons_zero, List.set_cons_succ]
                refine wpAnyN_done (by kernel_rfl) (NoPanic.normal ?_) _
                by_cases hc : (rs.toList == xj.toList) = true
                · have hft : fnd (kl.take (k + 1)) xj = some (rs, rl) := by rw [HFT.out, if_pos hc]
                  have HFT2 := Aside0.mk hft
                  clear hft
                  rw [hc]
                  clear hc
                  go_wp2
                  go_roundg (m - (k + 1))
                  case measure => have := HKR.out; omega
                  case rel => exact ⟨k + 1, As, cs, rl, true, by go_num, by go_num, by go_num, by omega, ⟨rfl⟩, ⟨by rw [HFT2.out]; rfl⟩, ⟨by rw [HFT2.out]; rfl⟩, HD4, HD2, HBD⟩
                · have hft : fnd (kl.take (k + 1)) xj = fnd (kl.take k) xj := by rw [HFT.out, if_neg hc]
                  have HFT2 := Aside0.mk hft
                  clear hft
                  simp only [Bool.not_eq_true] at hc
                  rw [hc]
                  clear hc
                  go_wp2
                  go_roundg (m - (k + 1))
                  case measure => have := HKR.out; omega
                  case rel => exact ⟨k + 1, Aw, cw, lw, hb, by go_num, by go_num, by go_num, by omega, ⟨rfl⟩, ⟨by rw [HFT2.out]; exact HLW.out⟩, ⟨by rw [HFT2.out]; exact HHB.out⟩, HCW, HLC, HBD⟩
              · have hke : k = m := by omega
                have htk : kl.take k = kl := List.take_of_length_le (by rw [← Hm.out]; omega)
                have elw : lw = gl := by rw [HLW.out, htk, ← HGL.out]
                have ehb : hb = gb := by rw [HHB.out, htk, ← HGB.out]
                clear HLW HHB htk
                subst elw ehb
                subst hke
                obtain ⟨KS, hKS⟩ := same_self lw (by have := HGN.out; omega)
                have HKS := Aside0.mk hKS
                clear hKS
                have HGW := Aside0.mk (show Kd.C (Kd.int .i64) wr Ag lw.length lw from Kd.C_below HFg.out (HB11.out.trans (HBW.out.mono HB11.out.size)))
                have HWW := Aside0.mk (show Kd.C (Kd.int .i64) wr Aw lw.length lw from Kd.C_below HCW.out (CZ.out.bel.trans (HZ.out.mono CZ.out.bel.size)))
                go_wp2_with (go_at_call 16; refine (glossatorref25_Same.calls KS Ag cg lw Aw cw lw true wr HGW.out HCg.out HWW.out HLC.out HKS.out).mono ?_; rintro e w12 ⟨rfl, hd_⟩; have HB12 := Aside0.mk (HZ.out.trans (hd_.below.mono HZ.out.size)); clear hd_)
                go_roundg (n - (j + 1))
                case measure => have := HKJ.out; omega
                case rel => exact ⟨j + 1, by go_num, by omega, ⟨rfl⟩, HB12⟩
          · have hje : n = j := by omega
            subst hje
            go_wp2_with fail
            go_ret
            exact ⟨rfl, CZ.out.bel.trans (HBJ.out.mono CZ.out.bel.size)⟩
      · obtain ⟨kl, hkl⟩ : ∃ kl, kl = ml := ⟨_, rfl⟩
        obtain ⟨kd, hkd⟩ : ∃ kd, kd = dat := ⟨_, rfl⟩
        obtain ⟨wz, hwz⟩ : ∃ wz, wz = wr := ⟨_, rfl⟩
        have hd4 : ¬ (4 : Int) < (nm : Int) := by omega
        have hnm := HNM.out
        have HMU := Aside0.mk (show M uri = kl by rw [HM.out.mu, hkl, show ml.length - 4 = 0 by omega]; rfl)
        have HDK := Aside0.mk (show DatOk W kd kl by rw [hkd, hkl]; exact HD.out)
        have HPW := Aside0.mk (show kl.Pairwise (fun a b => (a.1.toList == b.1.toList) = false) by rw [hkl]; exact HM.out.pw)
        have Hm := Aside0.mk (show nm = kl.length by rw [hkl]; exact hnm)
        have HM4 := Aside0.mk (show nm ≤ 400 from HN.out.2.2.1)
        have HC7 := Aside0.mk (show nm ≤ c7 from (Kd.R_reads' LL.out.rm).2.1)
        have K7 := Aside0.mk (show Kd.C Kd.string wz A7 (kl.map (·.1)).length (kl.map (·.1)) by rw [hwz, hkl]; exact (Kd.R_reads' LL.out.rm).2.2)
        have K8 := Aside0.mk (show Kd.C (Kd.raw 1) wz A8 kd.length kd by rw [hwz, hkd]; exact (Kd.R_reads' LL.out.rd).2.2)
        have CZ := Aside0.mk (show CW W wz Fp b n M by rw [hwz]; exact LL.out.cw)
        have RI := Aside0.mk (show Kd.C Kd.string wz A6 ids.length ids by rw [hwz]; exact (Kd.R_reads' LL.out.ri).2.2)
        rw [← hwz]
        clear hwz hkl hkd hnm LL
        obtain ⟨km, hkm_⟩ : ∃ km, km = kl.map (·.1) := ⟨_, rfl⟩
        have HKM := Aside0.mk hkm_
        have HMK := Aside0.mk (show (M uri).map (·.1) = km by rw [HMU.out, hkm_])
        rw [← hkm_] at K7
        clear hkm_
        have Hm2 := Aside0.mk (show nm = km.length by rw [HKM.out, List.length_map]; exact Hm.out)
        obtain ⟨KT, hKT⟩ := sameT_self km (by rw [← Hm2.out]; have := HM4.out; omega)
        have HKT := Aside0.mk hKT
        clear hKT
        go_upto_region 33 with (first | (go_at_call 13; refine (kept_cw CZ.out uri HU.out).mono ?_; rintro e w8 ⟨Ak, ck, he_, hc_, hF_, hcw_, hb_⟩; rw [HMK.out] at he_ hc_ hF_; subst he_; have HFk := Aside0.mk hF_; have HCk := Aside0.mk hc_; have HB8 := Aside0.mk hb_; clear hc_ hF_ hcw_ hb_) | (go_at_call 15; refine (sameT_m KT Ak ck A7 nm c7 km w8 (Kd.F_now HFk.out) HCk.out (Kd.C_below K7.out HB8.out) Hm2.out HC7.out HKT.out).mono ?_; rintro e w9 ⟨rfl, hd_⟩; have HB9 := Aside0.mk (HB8.out.trans (hd_.below.mono HB8.out.size)); clear hd_ HB8))
        go_loopg [12] n (fun kj v12 w' => ∃ j : Nat, v12 = .int .i64 j ∧ j ≤ n ∧ Aside0 (kj = n - j) ∧ Aside0 (Below wz.heap.size wz w'))
        case atStart => exact ⟨0, rfl, Nat.zero_le _, ⟨rfl⟩, HB9⟩
        case round =>
          obtain ⟨j, rfl, hj, HKJ, HBJ⟩ := hrel
          by_cases hjn : j < n
          · obtain ⟨ad6, e6, hq_⟩ := str_at (Kd.C_below RI.out HBJ.out) j (by rw [← HIL.out]; exact hjn)
            subst e6
            obtain ⟨xj, hxj⟩ : ∃ xj, xj = ids.getD j ByteArray.empty := ⟨_, rfl⟩
            rw [← hxj] at hq_
            have HXJ := Aside0.mk hxj
            clear hxj
            obtain ⟨gl, hgl⟩ : ∃ gl, gl = (fnd kl xj).elim [] (·.2) := ⟨_, rfl⟩
            obtain ⟨gb, hgb⟩ : ∃ gb, gb = (fnd kl xj).isSome := ⟨_, rfl⟩
            have HGL := Aside0.mk hgl
            have HGB := Aside0.mk hgb
            have HGN := Aside0.mk (show gl.length ≤ 20000 by rw [hgl]; exact fnd_len HDK.out xj)
            clear hgl hgb
            have CJ := Aside0.mk (CZ.out.below HBJ.out)
            go_upto_region 36 with (go_at_call 11; refine (get_cw CJ.out uri xj HU.out).mono ?_; rintro e w10 ⟨Ag, cg, he_, hc_, hF_, hR_, hcw_, hb_⟩; rw [HMU.out, ← HGL.out] at he_ hc_ hF_; rw [← HGB.out] at he_; subst he_; have HFg := Aside0.mk (Kd.F_now hF_); have HCg := Aside0.mk hc_; have HB10 := Aside0.mk (HBJ.out.trans (hb_.mono HBJ.out.size)); clear hc_ hF_ hR_ hcw_ hb_)
            obtain ⟨w11, hw11⟩ : ∃ w11, w11 = w10.alloc (.cells #[] 3) := ⟨_, rfl⟩
            have HB11 := Aside0.mk (show Below w10.heap.size w10 w11 by rw [hw11]; exact below_alloc (Below.refl _ _) _)
            have HW11 := Aside0.mk hw11
            clear hw11 hq_
            go_upto_region 38 with (fail)
            go_loopg [15, 16, 17] nm (fun kr v15 v16 v17 w' => ∃ (k : Nat) (Aw : Option Addr) (cw : Nat) (lw : List Int) (hb : Bool), v15 = .slice Aw lw.length cw ∧ v16 = .bool hb ∧ v17 = .int .i64 k ∧ k ≤ nm ∧ Aside0 (kr = nm - k) ∧ Aside0 (lw = (fnd (kl.take k) xj).elim [] (·.2)) ∧ Aside0 (hb = (fnd (kl.take k) xj).isSome) ∧ Aside0 (Kd.C (Kd.int .i64) W Aw lw.length lw) ∧ Aside0 (lw.length ≤ cw) ∧ Aside0 (Below w11.heap.size w11 w'))
            case atStart => exact ⟨0, some ⟨w10.heap.size, 0, none⟩, 0, [], false, rfl, rfl, rfl, Nat.zero_le _, ⟨rfl⟩, ⟨rfl⟩, ⟨rfl⟩, ⟨C_nil_ _ _ _⟩, ⟨Nat.le_refl _⟩, ⟨by rw [HW11.out]; exact Below.refl _ _⟩⟩
            case round =>
              obtain ⟨k, Aw, cw, lw, hb, rfl, rfl, rfl, hk, HKR, HLW, HHB, HCW, HLC, HBW⟩ := hrel
              have HZ := Aside0.mk ((HB10.out.trans (HB11.out.mono HB10.out.size)).trans (HBW.out.mono (HB10.out.trans (HB11.out.mono HB10.out.size)).size))
              have hm4 := HM4.out
              by_cases hkm : k < nm
              · have hkl : k < kl.length := by rw [← Hm.out]; exact hkm
                obtain ⟨r, hr⟩ : ∃ r, kl[k]? = some r := ⟨_, List.getElem?_eq_getElem hkl⟩
                obtain ⟨As, cs, hd1, hd2, hd3, hd4⟩ := HDK.out.2 k r hr
                obtain ⟨a7_, e7_, q7⟩ := str_at (Kd.C_below K7.out HZ.out) k (by rw [← Hm2.out]; exact hkm)
                rw [HKM.out, List.getD_eq_getElem?_getD, List.getElem?_map, hr] at q7
                simp only [Option.map_some, Option.getD_some] at q7
                obtain ⟨a8_, e8_, q8⟩ := raw_at (Kd.C_below K8.out HZ.out) k (by rw [HDK.out.1]; exact hkl) _ hd1
                obtain ⟨a6_, e6_, q6⟩ := str_at (Kd.C_below RI.out HZ.out) j (by rw [← HIL.out]; exact hjn)
                have q6x := HXJ.out
                rw [← q6x] at q6
                clear q6x
                obtain ⟨rs, rl⟩ := r
                simp only at q7 q8 hd2 hd3 hd4
                subst e7_
                subst e8_
                injection e6_ with e6_
                subst e6_
                have HR := Aside0.mk hr
                have HD2 := Aside0.mk hd2
                have HD4 := Aside0.mk hd4
                clear hr hd1 hd2 hd3 hd4
                have Q8 := Aside0.mk q8
                have hft := fnd_take HPW.out xj k (rs, rl) HR.out
                have HFT := Aside0.mk hft
                clear hft
                go_upto_region 40 with (fail)
                have HS0 := Aside0.mk (show wr.drew.cell? (a7_.add k) = some (.string rs) ∧ wr.drew.cell? (ad6.add j) = some (.string xj) from ⟨q7, q6⟩)
                clear q6 q7 q8
                refine wp_region_noPanic (plain_need [0, 1, 2, 3, 4, 5, 6, 7, 8] (fun W' => W'.cell? (a7_.add k) = some (.string rs) ∧ W'.cell? (ad6.add j) = some (.string xj)) (by kernel_rfl) ?_)
                refine wpAnyN_take (i := 0) (v := ?_) rfl (by kernel_rfl) (by kernel_rfl) (by kernel_rfl) (by kernel_rfl) (fun _ _ _ h => h) (.inl ⟨by rfl, ?_⟩) HS0.out ?_
                rotate_left
                · (intro W' hW'; obtain ⟨s0, s1⟩ := hW'; go_simp; try rfl)
                simp only [Act.put, List.setIfInBounds_toArray, List.set_cons_zero, List.set_cons_succ]
                refine wpAnyN_take (i := 1) (v := ?_) rfl (by kernel_rfl) (by kernel_rfl) (by kernel_rfl) (by kernel_rfl) (fun _ _ _ h => h) (.inl ⟨by rfl, ?_⟩) HS0.out ?_
                rotate_left
                · (intro W' hW'; obtain ⟨s0, s1⟩ := hW'; go_simp; try rfl)
                simp only [Act.put, List.setIfInBounds_toArray, List.set_cons_zero, List.set_cons_succ]
                refine wpAnyN_take (i := 2) (v := ?_) rfl (by kernel_rfl) (by kernel_rfl) (by kernel_rfl) (by kernel_rfl) (fun _ _ _ h => h) (.inl ⟨by rfl, ?_⟩) HS0.out ?_
                rotate_left
                · (intro W' hW'; obtain ⟨s0, s1⟩ := hW'; go_simp; try rfl)
                simp only [Act.put, List.setIfInBounds_toArray, List.set_cons_zero, List.set_cons_succ]
                refine wpAnyN_take (i := 3) (v := ?_) rfl (by kernel_rfl) (by kernel_rfl) (by kernel_rfl) (by kernel_rfl) (fun _ _ _ h => h) (.inl ⟨by rfl, ?_⟩) HS0.out ?_
                rotate_left
                · (intro W' hW'; obtain ⟨s0, s1⟩ := hW'; go_simp; try rfl)
                simp only [Act.put, List.setIfInBounds_toArray, List.set_cons_zero, List.set_cons_succ]
                refine wpAnyN_take (i := 4) (v := ?_) rfl (by kernel_rfl) (by kernel_rfl) (by kernel_rfl) (by kernel_rfl) (fun _ _ _ h => h) (.inl ⟨by rfl, ?_⟩) HS0.out ?_
                rotate_left
                · (intro W' hW'; obtain ⟨s0, s1⟩ := hW'; go_simp; try rfl)
                simp only [Act.put, List.setIfInBounds_toArray, List.set_cons_zero, List.set_cons_succ]
                refine wpAnyN_take (i := 5) (v := ?_) rfl (by kernel_rfl) (by kernel_rfl) (by kernel_rfl) (by kernel_rfl) (fun _ _ _ h => h) (.inl ⟨by rfl, ?_⟩) HS0.out ?_
                rotate_left
                · (intro W' hW'; obtain ⟨s0, s1⟩ := hW'; go_simp; try rfl)
                simp only [Act.put, List.setIfInBounds_toArray, List.set_cons_zero, List.set_cons_succ]
                refine wpAnyN_take (i := 6) (v := ?_) rfl (by kernel_rfl) (by kernel_rfl) (by kernel_rfl) (by kernel_rfl) (fun _ _ _ h => h) (.inl ⟨by rfl, ?_⟩) HS0.out ?_
                rotate_left
                · (intro W' hW'; obtain ⟨s0, s1⟩ := hW'; go_simp; try rfl)
                simp only [Act.put, List.setIfInBounds_toArray, List.set_cons_zero, List.set_cons_succ]
                refine wpAnyN_take (i := 7) (v := ?_) rfl (by kernel_rfl) (by kernel_rfl) (by kernel_rfl) (by kernel_rfl) (fun _ _ _ h => h) (.inl ⟨by rfl, ?_⟩) HS0.out ?_
                rotate_left
                · (intro W' hW'; obtain ⟨s0, s1⟩ := hW'; go_simp; try rfl)
                simp only [Act.put, List.setIfInBounds_toArray, List.set_cons_zero, List.set_cons_succ]
                have HBD := Aside0.mk (show Below w11.heap.size w11 wr.drew from HBW.out.trans ((Below.refl _ _).drew))
                have q8 : wr.drew.cell? _ = _ := Q8.out
                refine wpAnyN_one (i := 8) rfl (by kernel_rfl) (fun K hK => ?_)
                go_simp
                refine hK.out _ _ (fun _ => HS0.out) (fun _ => ?_)
                clear hK K
                try simp only [Act.put, List.setIfInBounds_toArray, List.set_cons_zero, List.set_cons_succ]
                refine wpAnyN_done (by kernel_rfl) (NoPanic.normal ?_) _
                by_cases hc : (rs.toList == xj.toList) = true
                · have hft : fnd (kl.take (k + 1)) xj = some (rs, rl) := by rw [HFT.out, if_pos hc]
                  have HFT2 := Aside0.mk hft
                  clear hft
                  rw [hc]
                  clear hc
                  go_wp2
                  go_roundg (nm - (k + 1))
                  case measure => have := HKR.out; omega
                  case rel => exact ⟨k + 1, As, cs, rl, true, by go_num, by go_num, by go_num, by omega, ⟨rfl⟩, ⟨by rw [HFT2.out]; rfl⟩, ⟨by rw [HFT2.out]; rfl⟩, HD4, HD2, HBD⟩
                · have hft : fnd (kl.take (k + 1)) xj = fnd (kl.take k) xj := by rw [HFT.out, if_neg hc]
                  have HFT2 := Aside0.mk hft
                  clear hft
                  simp only [Bool.not_eq_true] at hc
                  rw [hc]
                  clear hc
                  go_wp2
                  go_roundg (nm - (k + 1))
                  case measure => have := HKR.out; omega
                  case rel => exact ⟨k + 1, Aw, cw, lw, hb, by go_num, by go_num, by go_num, by omega, ⟨rfl⟩, ⟨by rw [HFT2.out]; exact HLW.out⟩, ⟨by rw [HFT2.out]; exact HHB.out⟩, HCW, HLC, HBD⟩
              · have hke : k = nm := by omega
                have htk : kl.take k = kl := List.take_of_length_le (by rw [← Hm.out]; omega)
                have elw : lw = gl := by rw [HLW.out, htk, ← HGL.out]
                have ehb : hb = gb := by rw [HHB.out, htk, ← HGB.out]
                clear HLW HHB htk
                subst elw ehb
                subst hke
                obtain ⟨KS, hKS⟩ := same_self lw (by have := HGN.out; omega)
                have HKS := Aside0.mk hKS
                clear hKS
                have HGW := Aside0.mk (show Kd.C (Kd.int .i64) wr Ag lw.length lw from Kd.C_below HFg.out (HB11.out.trans (HBW.out.mono HB11.out.size)))
                have HWW := Aside0.mk (show Kd.C (Kd.int .i64) wr Aw lw.length lw from Kd.C_below HCW.out (CZ.out.bel.trans (HZ.out.mono CZ.out.bel.size)))
                go_wp2_with (go_at_call 16; refine (glossatorref25_Same.calls KS Ag cg lw Aw cw lw true wr HGW.out HCg.out HWW.out HLC.out HKS.out).mono ?_; rintro e w12 ⟨rfl, hd_⟩; have HB12 := Aside0.mk (HZ.out.trans (hd_.below.mono HZ.out.size)); clear hd_)
                go_roundg (n - (j + 1))
                case measure => have := HKJ.out; omega
                case rel => exact ⟨j + 1, by go_num, by omega, ⟨rfl⟩, HB12⟩
          · have hje : n = j := by omega
            subst hje
            go_wp2_with fail
            go_ret
            exact ⟨rfl, CZ.out.bel.trans (HBJ.out.mono CZ.out.bel.size)⟩
end Go.Proofs.YtaphacgdokhmmaaDoor.H
