/- CachePlays: the law walked. -/
import Derived.Test.YtaphacgdokhmmaaDoorVHOne
set_option linter.unusedVariables false
set_option linter.unusedSimpArgs false
namespace Go.Proofs.YtaphacgdokhmmaaDoor.H
open Go.RowKit Go.Shelf Go.Proofs.YtaphacgdokhmmaaDoorW.PrintWords Go.Proofs.YtaphacgdokhmmaaDoorW.PrintLast Go.Proofs.YtaphacgdokhmmaaDoorW.PrintMore
theorem bool_in {W : World} {A : Option Addr} {l : List Bool} (h : Kd.C Kd.bool W A l.length l) (i : Nat) (hi : i < l.length) : ∃ ad, A = some ad ∧ W.cell? (ad.add i) = some (.bool (l.getD i false)) := by
  obtain ⟨ad, e, hc⟩ := Kd.at_bool h (i : Int) (by omega) (by omega)
  refine ⟨ad, e, ?_⟩
  rw [Int.toNat_natCast] at hc
  rw [hc]
  rfl
structure Two (w : World) (g1 b1 b2 g2 p1 p2 : Nat) : Prop where
  c : w.heap[g1]? = some (.cells #[.pointer (some ⟨b1, 0, none⟩), .pointer (some ⟨b2, 0, none⟩)] 25 (0, 0))
  r : w.heap[g2]? = some (.cells #[.pointer (some ⟨p1, 0, none⟩), .pointer (some ⟨p2, 0, none⟩)] 28 (0, 0))
theorem Two.chg {w w' : World} {g1 b1 b2 g2 p1 p2 : Nat} {Gp : Nat → Prop} (h : Two w g1 b1 b2 g2 p1 p2) (hc : Chg Gp w w') (h1 : ¬ Gp g1) (h2 : ¬ Gp g2) : Two w' g1 b1 b2 g2 p1 p2 :=
  ⟨(hc.block _ (blk_lt h.c) h1).trans h.c, (hc.block _ (blk_lt h.r) h2).trans h.r⟩
theorem Two.below {w w' : World} {g1 b1 b2 g2 p1 p2 : Nat} (h : Two w g1 b1 b2 g2 p1 p2) (hb : Below w.heap.size w w') : Two w' g1 b1 b2 g2 p1 p2 := ⟨blk_below h.c hb, blk_below h.r hb⟩
theorem Two.cells {w : World} {g1 b1 b2 g2 p1 p2 : Nat} (h : Two w g1 b1 b2 g2 p1 p2) : w.cell? ⟨g1, 0, none⟩ = some (.pointer (some ⟨b1, 0, none⟩)) ∧ w.cell? ⟨g1, 1, none⟩ = some (.pointer (some ⟨b2, 0, none⟩)) ∧ w.cell? ⟨g2, 0, none⟩ = some (.pointer (some ⟨p1, 0, none⟩)) ∧ w.cell? ⟨g2, 1, none⟩ = some (.pointer (some ⟨p2, 0, none⟩)) := by
  have c0 := blk_cell h.c 0
  have c1 := blk_cell h.c 1
  have r0 := blk_cell h.r 0
  have r1 := blk_cell h.r 1
  simp at c0 c1 r0 r1
  exact ⟨c0, c1, r0, r1⟩
theorem PR.start {W0 W : World} {b p n0 n1 : Nat} (hci : CI (fun q => n0 ≤ q ∧ q < n1) W b 0 (fun _ => [])) (hB : Below W0.heap.size W0 W) (h0 : W0.heap.size ≤ n0) (h1 : n1 ≤ p) (h01 : n0 ≤ n1) (hp : W.heap[p]? = some (.cells #[.slice none 0 0] 31 (0, 0))) : PR W0 W (fun q => n0 ≤ q ∧ q < n1) (fun q => q = p) b 0 (fun _ => []) p none 0 [] :=
  ⟨⟨hci, fun q hq => by have := blk_lt hp; have := hq.2; omega, fun q hq => Nat.le_trans h0 hq.1, hB⟩, ⟨hp, rfl, Kd.N_nil _ _ _ _ _⟩, fun q hq => by rw [show q = p from hq]; exact blk_lt hp, fun q hq => by rw [show q = p from hq]; omega, fun q hq e => by have h2 := hq.2; have h3 : q = p := e; omega, rfl, fun u => rfl⟩
set_option maxHeartbeats 8000000 in
set_option maxRecDepth 100000 in
theorem plays_law (A0 : Option Addr) (c0 : Nat) (l0 : List S36) (Aw : Option Addr) (cw : Nat) (ws : List Bool) (W : World) (hr0 : Kd.C k36 W A0 l0.length l0) (hc0 : l0.length ≤ c0) (hp0 : ∀ t ∈ l0, t.f1.size ≤ maxLen ∧ t.f3.length ≤ 17592186044416) (hrw : Kd.C Kd.bool W Aw ws.length ws) (hcw : ws.length ≤ cw) (htab : Tab W) :
    Calls Tryd.prog 3 #[.slice A0 l0.length c0, .slice Aw ws.length cw] W fun e w' => e = .returned (.bool true) ∧ Below W.heap.size W w' := by
  have HT := Aside0.mk htab
  have HR0 := Aside0.mk hr0
  have HC0 := Aside0.mk hc0
  have HP := Aside0.mk hp0
  have HRW := Aside0.mk hrw
  obtain ⟨r, hgr, hgt⟩ := great_tot l0 (fun t ht => (hp0 t ht).2)
  have HGR := Aside0.mk hgr
  have HGT := Aside0.mk hgt
  clear htab hr0 hc0 hp0 hgr hgt hrw hcw
  go_enter Tryd.func3, Tryd.ntmps3
  cases r with
  | true =>
    go_wp2_with (go_at_call 7; refine (glossatorlaw25_great.calls 500 A0 c0 l0 true W HR0.out HC0.out HGR.out).mono ?_; rintro e w2 ⟨rfl, hd⟩; have HB2 := Aside0.mk hd.below; clear hd)
    go_ret
    exact ⟨rfl, HB2.out⟩
  | false =>
  obtain ⟨hlen, hlens⟩ := HGT.out rfl
  have HLEN := Aside0.mk hlen
  have HLENS := Aside0.mk hlens
  clear hlens HGT hlen
  go_upto_region 3 with (go_at_call 7; refine (glossatorlaw25_great.calls 500 A0 c0 l0 false W HR0.out HC0.out HGR.out).mono ?_; rintro e w2 ⟨rfl, hd⟩; have HB2 := Aside0.mk hd.below; clear hd)
  have tok1 : True := trivial
  go_upto_region 5 with (first | (go_at_call 8; have _t := tok1; refine (new_calls w2).mono ?_; rintro e w3 ⟨b1, rfl, hci, hb⟩; have HCI3 := Aside0.mk hci; have HB3 := Aside0.mk hb; clear hci hb tok1) | (go_at_call 8; refine (new_calls w3).mono ?_; rintro e w4 ⟨b2, rfl, hci, hb⟩; have HCI4 := Aside0.mk hci; have HB4 := Aside0.mk hb; clear hci hb))
  obtain ⟨Y1, hY1⟩ : ∃ Y, Y = w4.alloc (.cells #[.pointer (some ⟨b1, 0, none⟩), .pointer (some ⟨b2, 0, none⟩)] 25) := ⟨_, rfl⟩
  obtain ⟨Y2, hY2⟩ : ∃ Y, Y = Y1.alloc (.cells #[.slice none 0 0] 31) := ⟨_, rfl⟩
  obtain ⟨Y3, hY3⟩ : ∃ Y, Y = Y2.alloc (.cells #[.slice none 0 0] 31) := ⟨_, rfl⟩
  obtain ⟨Y, hY⟩ : ∃ Y, Y = Y3.alloc (.cells #[.pointer (some ⟨w4.heap.size + 1, 0, none⟩), .pointer (some ⟨w4.heap.size + 1 + 1, 0, none⟩)] 28) := ⟨_, rfl⟩
  have s1 : Y1.heap.size = w4.heap.size + 1 := by rw [hY1]; simp
  have s2 : Y2.heap.size = w4.heap.size + 2 := by rw [hY2]; simp [s1]
  have s3 : Y3.heap.size = w4.heap.size + 3 := by rw [hY3]; simp [s2]
  have e1 : Below w4.heap.size w4 Y1 := by rw [hY1]; exact below_alloc (Below.refl _ _) _
  have e2 : Below Y1.heap.size Y1 Y2 := by rw [hY2]; exact below_alloc (Below.refl _ _) _
  have e3 : Below Y2.heap.size Y2 Y3 := by rw [hY3]; exact below_alloc (Below.refl _ _) _
  have e4 : Below Y3.heap.size Y3 Y := by rw [hY]; exact below_alloc (Below.refl _ _) _
  have k1 : Y1.heap[w4.heap.size]? = some (.cells #[.pointer (some ⟨b1, 0, none⟩), .pointer (some ⟨b2, 0, none⟩)] 25 (0, 0)) := by rw [hY1]; exact heap_alloc_new _ _
  have k2 : Y2.heap[w4.heap.size + 1]? = some (.cells #[.slice none 0 0] 31 (0, 0)) := by rw [hY2, ← s1]; exact heap_alloc_new _ _
  have k3 : Y3.heap[w4.heap.size + 1 + 1]? = some (.cells #[.slice none 0 0] 31 (0, 0)) := by rw [hY3, show w4.heap.size + 1 + 1 = Y2.heap.size by omega]; exact heap_alloc_new _ _
  have k4 : Y.heap[w4.heap.size + 1 + 1 + 1]? = some (.cells #[.pointer (some ⟨w4.heap.size + 1, 0, none⟩), .pointer (some ⟨w4.heap.size + 1 + 1, 0, none⟩)] 28 (0, 0)) := by rw [hY, show w4.heap.size + 1 + 1 + 1 = Y3.heap.size by omega]; exact heap_alloc_new _ _
  have e34 := below_step e3 e4
  have e234 := below_step e2 e34
  have e1234 := below_step e1 e234
  have hBY := below_step HB2.out (below_step HB3.out (below_step HB4.out e1234))
  have m2 := HB2.out.size
  have m3 := HB3.out.size
  have m4 := HB4.out.size
  obtain ⟨g1, hg1⟩ : ∃ g, g = w4.heap.size := ⟨_, rfl⟩
  obtain ⟨q1, hq1⟩ : ∃ g, g = w4.heap.size + 1 := ⟨_, rfl⟩
  obtain ⟨q2, hq2⟩ : ∃ g, g = w4.heap.size + 1 + 1 := ⟨_, rfl⟩
  obtain ⟨g2, hg2⟩ : ∃ g, g = w4.heap.size + 1 + 1 + 1 := ⟨_, rfl⟩
  have HTWO := Aside0.mk (show Two Y g1 b1 b2 g2 q1 q2 from ⟨by rw [hg1]; exact blk_below k1 e234, by rw [hg2, hq1, hq2]; exact k4⟩)
  have HPA := Aside0.mk (show PR W Y (fun q => w2.heap.size ≤ q ∧ q < w3.heap.size) (fun q => q = q1) b1 0 (fun _ => []) q1 none 0 [] from PR.start (HCI3.out.below (below_step HB4.out e1234)) hBY m2 (by omega) (by omega) (by rw [hq1]; exact blk_below k2 e34))
  have HPB := Aside0.mk (show PR W Y (fun q => w3.heap.size ≤ q ∧ q < w4.heap.size) (fun q => q = q2) b2 0 (fun _ => []) q2 none 0 [] from PR.start (HCI4.out.below e1234) hBY (by omega) (by omega) (by omega) (by rw [hq2]; exact blk_below k3 e4))
  have HAP := Aside0.mk (show ∀ q, Both (fun q => w2.heap.size ≤ q ∧ q < w3.heap.size) (fun q => q = q1) q → ¬ Both (fun q => w3.heap.size ≤ q ∧ q < w4.heap.size) (fun q => q = q2) q from fun q h1 h2 => by unfold Both at h1 h2; omega)
  have HGN := Aside0.mk (show (∀ q, q = g1 ∨ q = g2 → ¬ Both (fun q => w2.heap.size ≤ q ∧ q < w3.heap.size) (fun q => q = q1) q ∧ ¬ Both (fun q => w3.heap.size ≤ q ∧ q < w4.heap.size) (fun q => q = q2) q) from fun q h => ⟨fun h1 => by unfold Both at h1; omega, fun h1 => by unfold Both at h1; omega⟩)
  change Code.wp Tryd.prog _ _ _ ((((w4.alloc (.cells #[.pointer (some ⟨b1, 0, none⟩), .pointer (some ⟨b2, 0, none⟩)] 25)).alloc (.cells #[.slice none 0 0] 31)).alloc (.cells #[.slice none 0 0] 31)).alloc (.cells #[.pointer (some ⟨w4.heap.size + 1, 0, none⟩), .pointer (some ⟨w4.heap.size + 1 + 1, 0, none⟩)] 28))
  rw [← hY1, ← hY2, ← hY3, ← hY, ← hg2, ← hg1]
  clear hY1 hY2 hY3 hY s1 s2 s3 e1 e2 e3 e4 k1 k2 k3 k4 e34 e234 e1234 m2 m3 m4 HB2 HB3 HB4 HCI3 HCI4
  have HBY := Aside0.mk hBY
  obtain ⟨Fa, hFa⟩ : ∃ F : Nat → Prop, F = fun q => w2.heap.size ≤ q ∧ q < w3.heap.size := ⟨_, rfl⟩
  obtain ⟨Fb, hFb⟩ : ∃ F : Nat → Prop, F = fun q => w3.heap.size ≤ q ∧ q < w4.heap.size := ⟨_, rfl⟩
  obtain ⟨Ra, hRa⟩ : ∃ F : Nat → Prop, F = fun q => q = q1 := ⟨_, rfl⟩
  obtain ⟨Rb, hRb⟩ : ∃ F : Nat → Prop, F = fun q => q = q2 := ⟨_, rfl⟩
  rw [← hFa, ← hRa] at HPA HAP HGN
  rw [← hFb, ← hRb] at HPB HAP HGN
  clear hFa hFb hRa hRb hg1 hg2 hq1 hq2 hBY
  go_wp2_with fail
  go_loopg [7] l0.length (fun kq v7 w' => ∃ (i na nb : Nat) (Fa Ra Fb Rb : Nat → Prop) (Ma Mb : ByteArray → List Res) (Aa Ab : Option Addr) (ca cb : Nat) (La Lb : List PutR), v7 = .int .i64 i ∧ i ≤ l0.length ∧ Aside0 (na ≤ i ∧ nb ≤ i) ∧ Aside0 (kq = l0.length - i) ∧ Aside0 (Two w' g1 b1 b2 g2 q1 q2) ∧ Aside0 (PR W w' Fa Ra b1 na Ma q1 Aa ca La) ∧ Aside0 (PR W w' Fb Rb b2 nb Mb q2 Ab cb Lb) ∧ Aside0 (∀ q, Both Fa Ra q → ¬ Both Fb Rb q) ∧ Aside0 (∀ q, q = g1 ∨ q = g2 → ¬ Both Fa Ra q ∧ ¬ Both Fb Rb q))
  case atStart => exact ⟨0, 0, 0, Fa, Ra, Fb, Rb, _, _, none, none, 0, 0, [], [], rfl, Nat.zero_le _, ⟨Nat.le_refl _, Nat.le_refl _⟩, ⟨rfl⟩, HTWO, HPA, HPB, HAP, HGN⟩
  case round =>
    clear HTWO HPA HPB HAP HGN Fa Ra Fb Rb
    obtain ⟨i, na, nb, Fa, Ra, Fb, Rb, Ma, Mb, Aa, Ab, ca, cb, La, Lb, rfl, hi, HN, HK, HTWO, HPA, HPB, HAP, HGN⟩ := hrel
    have hlen := HLEN.out
    by_cases hlt : i < l0.length
    · obtain ⟨ad, A3, c3, e0, hact, hl3, hC3⟩ := act_in HR0.out i hlt
      subst e0
      have hin : l0.getD i z36 ∈ l0 := by rw [List.getD_eq_getElem?_getD, List.getElem?_eq_getElem hlt]; exact List.getElem_mem hlt
      have hps := HP.out _ hin
      have hxl := HLENS.out i hlt
      obtain ⟨x, hx⟩ : ∃ x, x = l0.getD i z36 := ⟨_, rfl⟩
      rw [← hx] at hact hl3 hC3 hps hxl
      clear hx hin
      obtain ⟨xk, xu, xd, xl⟩ := x
      have HXU := Aside0.mk hps.1
      have HXL := Aside0.mk hxl
      have HL3 := Aside0.mk hl3
      have HC3 := Aside0.mk hC3
      have HA := Aside0.mk hact
      clear hps hxl hl3 hC3 hact
      by_cases hw : i < ws.length
      · obtain ⟨adw, ew, qw⟩ := bool_in (Kd.C_below HRW.out HPA.out.cw.bel) i hw
        subst ew
        obtain ⟨bw, hbw⟩ : ∃ b, b = ws.getD i false := ⟨_, rfl⟩
        rw [← hbw] at qw
        clear hbw
        cases bw with
        | true =>
          go_upto_region 11 with (fail)
          obtain ⟨wd, hwd⟩ : ∃ wd, wd = wr.drew := ⟨_, rfl⟩
          have HBD := Aside0.mk (show Below wr.heap.size wr wd by rw [hwd]; exact (Below.refl _ _).drew)
          refine wp_region_noPanic (plain_need [0, 1, 2, 3, 4, 5, 6, 7, 8, 9, 10, 11, 12, 13] (fun W' => W'.cell? ⟨g1, 1, none⟩ = some (.pointer (some ⟨b2, 0, none⟩)) ∧ W'.cell? ⟨g2, 1, none⟩ = some (.pointer (some ⟨q2, 0, none⟩)) ∧ W'.cell? (ad.add (i * 4)) = some (.int .i64 xk) ∧ W'.cell? ⟨(ad.add (i * 4)).block, (ad.add (i * 4)).off + 1, none⟩ = some (.string xu) ∧ W'.cell? ⟨(ad.add (i * 4)).block, (ad.add (i * 4)).off + 2, none⟩ = some (.string xd) ∧ W'.cell? ⟨(ad.add (i * 4)).block, (ad.add (i * 4)).off + 3, none⟩ = some (.slice A3 xl.length c3)) (by kernel_rfl) ?_)
          rw [← hwd]
          clear hwd
          have HTW2 := Aside0.mk (HTWO.out.below HBD.out)
          have HPA2 := Aside0.mk (HPA.out.below HBD.out)
          have HPB2 := Aside0.mk (HPB.out.below HBD.out)
          have hta := HTW2.out.cells
          have hac := HA.out.below HPA2.out.cw.bel
          have HS0 := Aside0.mk (show wd.cell? ⟨g1, 1, none⟩ = some (.pointer (some ⟨b2, 0, none⟩)) ∧ wd.cell? ⟨g2, 1, none⟩ = some (.pointer (some ⟨q2, 0, none⟩)) ∧ wd.cell? (ad.add (i * 4)) = some (.int .i64 xk) ∧ wd.cell? ⟨(ad.add (i * 4)).block, (ad.add (i * 4)).off + 1, none⟩ = some (.string xu) ∧ wd.cell? ⟨(ad.add (i * 4)).block, (ad.add (i * 4)).off + 2, none⟩ = some (.string xd) ∧ wd.cell? ⟨(ad.add (i * 4)).block, (ad.add (i * 4)).off + 3, none⟩ = some (.slice A3 xl.length c3) from ⟨hta.2.1, hta.2.2.2, hac.k, hac.u, hac.d, hac.l⟩)
          clear hta hac
          have hu36 := Tryd.underlying36
          refine wpAnyN_take (i := 0) (v := ?_) rfl (by kernel_rfl) (by kernel_rfl) (by kernel_rfl) (by kernel_rfl) (fun _ _ _ h => h) (.inl ⟨by rfl, ?_⟩) HS0.out ?_
          rotate_left
          · (intro W' hW'; obtain ⟨s0, s1, s2, s3, s4, s5⟩ := hW'; go_simp; try rfl)
          simp only [Act.put, List.setIfInBounds_toArray, List.set_cons_zero, List.set_cons_succ]
          refine wpAnyN_take (i := 1) (v := ?_) rfl (by kernel_rfl) (by kernel_rfl) (by kernel_rfl) (by kernel_rfl) (fun _ _ _ h => h) (.inl ⟨by rfl, ?_⟩) HS0.out ?_
          rotate_left
          · (intro W' hW'; obtain ⟨s0, s1, s2, s3, s4, s5⟩ := hW'; go_simp; try rfl)
          simp only [Act.put, List.setIfInBounds_toArray, List.set_cons_zero, List.set_cons_succ]
          refine wpAnyN_take (i := 2) (v := ?_) rfl (by kernel_rfl) (by kernel_rfl) (by kernel_rfl) (by kernel_rfl) (fun _ _ _ h => h) (.inl ⟨by rfl, ?_⟩) HS0.out ?_
          rotate_left
          · (intro W' hW'; obtain ⟨s0, s1, s2, s3, s4, s5⟩ := hW'; go_simp; try rfl)
          simp only [Act.put, List.setIfInBounds_toArray, List.set_cons_zero, List.set_cons_succ]
          refine wpAnyN_take (i := 3) (v := ?_) rfl (by kernel_rfl) (by kernel_rfl) (by kernel_rfl) (by kernel_rfl) (fun _ _ _ h => h) (.inl ⟨by rfl, ?_⟩) HS0.out ?_
          rotate_left
          · (intro W' hW'; obtain ⟨s0, s1, s2, s3, s4, s5⟩ := hW'; go_simp; try rfl)
          simp only [Act.put, List.setIfInBounds_toArray, List.set_cons_zero, List.set_cons_succ]
          refine wpAnyN_take (i := 4) (v := ?_) rfl (by kernel_rfl) (by kernel_rfl) (by kernel_rfl) (by kernel_rfl) (fun _ _ _ h => h) (.inl ⟨by rfl, ?_⟩) HS0.out ?_
          rotate_left
          · (intro W' hW'; obtain ⟨s0, s1, s2, s3, s4, s5⟩ := hW'; go_simp; try rfl)
          simp only [Act.put, List.setIfInBounds_toArray, List.set_cons_zero, List.set_cons_succ]
          refine wpAnyN_take (i := 5) (v := ?_) rfl (by kernel_rfl) (by kernel_rfl) (by kernel_rfl) (by kernel_rfl) (fun _ _ _ h => h) (.inl ⟨by rfl, ?_⟩) HS0.out ?_
          rotate_left
          · (intro W' hW'; obtain ⟨s0, s1, s2, s3, s4, s5⟩ := hW'; go_simp; try rfl)
          simp only [Act.put, List.setIfInBounds_toArray, List.set_cons_zero, List.set_cons_succ]
          refine wpAnyN_take (i := 6) (v := ?_) rfl (by kernel_rfl) (by kernel_rfl) (by kernel_rfl) (by kernel_rfl) (fun _ _ _ h => h) (.inl ⟨by rfl, ?_⟩) HS0.out ?_
          rotate_left
          · (intro W' hW'; obtain ⟨s0, s1, s2, s3, s4, s5⟩ := hW'; go_simp; try rfl)
          simp only [Act.put, List.setIfInBounds_toArray, List.set_cons_zero, List.set_cons_succ]
          refine wpAnyN_take (i := 7) (v := ?_) rfl (by kernel_rfl) (by kernel_rfl) (by kernel_rfl) (by kernel_rfl) (fun _ _ _ h => h) (.inl ⟨by rfl, ?_⟩) HS0.out ?_
          rotate_left
          · (intro W' hW'; obtain ⟨s0, s1, s2, s3, s4, s5⟩ := hW'; go_simp; try rfl)
          simp only [Act.put, List.setIfInBounds_toArray, List.set_cons_zero, List.set_cons_succ]
          refine wpAnyN_take (i := 8) (v := ?_) rfl (by kernel_rfl) (by kernel_rfl) (by kernel_rfl) (by kernel_rfl) (fun _ _ _ h => h) (.inl ⟨by rfl, ?_⟩) HS0.out ?_
          rotate_left
          · (intro W' hW'; obtain ⟨s0, s1, s2, s3, s4, s5⟩ := hW'; go_simp; try rfl)
          simp only [Act.put, List.setIfInBounds_toArray, List.set_cons_zero, List.set_cons_succ]
          refine wpAnyN_take (i := 9) (v := ?_) rfl (by kernel_rfl) (by kernel_rfl) (by kernel_rfl) (by kernel_rfl) (fun _ _ _ h => h) (.inl ⟨by rfl, ?_⟩) HS0.out ?_
          rotate_left
          · (intro W' hW'; obtain ⟨s0, s1, s2, s3, s4, s5⟩ := hW'; go_simp; try rfl)
          simp only [Act.put, List.setIfInBounds_toArray, List.set_cons_zero, List.set_cons_succ]
          refine wpAnyN_take (i := 10) (v := ?_) rfl (by kernel_rfl) (by kernel_rfl) (by kernel_rfl) (by kernel_rfl) (fun _ _ _ h => h) (.inl ⟨by rfl, ?_⟩) HS0.out ?_
          rotate_left
          · (intro W' hW'; obtain ⟨s0, s1, s2, s3, s4, s5⟩ := hW'; go_simp; try rfl)
          simp only [Act.put, List.setIfInBounds_toArray, List.set_cons_zero, List.set_cons_succ]
          refine wpAnyN_take (i := 11) (v := ?_) rfl (by kernel_rfl) (by kernel_rfl) (by kernel_rfl) (by kernel_rfl) (fun _ _ _ h => h) (.inl ⟨by rfl, ?_⟩) HS0.out ?_
          rotate_left
          · (intro W' hW'; obtain ⟨s0, s1, s2, s3, s4, s5⟩ := hW'; go_simp; try rfl)
          simp only [Act.put, List.setIfInBounds_toArray, List.set_cons_zero, List.set_cons_succ]
          refine wpAnyN_one (i := 12) rfl (by kernel_rfl) (fun K hK => ?_)
          go_simp
          refine (one_calls HPB2.out HT.out xk xu xd A3 c3 xl HXU.out HC3.out HL3.out HXL.out (by have := HN.out; omega)).mono ?_
          rintro e w9 ⟨rfl, F', R', n', M', A', c', L', hpr, hn', hch, hsub⟩
          have HPB3 := Aside0.mk hpr
          have HPA3 := Aside0.mk (HPA2.out.other hch hpr.cw.bel (fun q hq e => HAP.out q hq e))
          have HTW3 := Aside0.mk (HTW2.out.chg hch (HGN.out _ (.inl rfl)).2 (HGN.out _ (.inr rfl)).2)
          have HN3 := Aside0.mk (show n' ≤ i + 1 ∧ na ≤ i + 1 by have := HN.out; omega)
          have HAP3 := Aside0.mk (show ∀ q, Both Fa Ra q → ¬ Both F' R' q from fun q h1 h2 => by
            rcases hsub q h2 with h | h
            · exact HAP.out q h1 h
            · rcases h1 with h1 | h1
              · have := HPA2.out.cw.lt q h1; omega
              · have := HPA2.out.lt q h1; omega)
          have HGN3 := Aside0.mk (show ∀ q, q = g1 ∨ q = g2 → ¬ Both Fa Ra q ∧ ¬ Both F' R' q from fun q hq => ⟨(HGN.out q hq).1, fun h1 => by
            rcases hsub q h1 with h | h
            · exact (HGN.out q hq).2 h
            · rcases hq with e | e
              · have := blk_lt HTW2.out.c; omega
              · have := blk_lt HTW2.out.r; omega⟩)
          have hta := HTW3.out.cells
          have hac := HA.out.below hpr.cw.bel
          have HS1 := Aside0.mk (show w9.cell? ⟨g1, 1, none⟩ = some (.pointer (some ⟨b2, 0, none⟩)) ∧ w9.cell? ⟨g2, 1, none⟩ = some (.pointer (some ⟨q2, 0, none⟩)) ∧ w9.cell? (ad.add (i * 4)) = some (.int .i64 xk) ∧ w9.cell? ⟨(ad.add (i * 4)).block, (ad.add (i * 4)).off + 1, none⟩ = some (.string xu) ∧ w9.cell? ⟨(ad.add (i * 4)).block, (ad.add (i * 4)).off + 2, none⟩ = some (.string xd) ∧ w9.cell? ⟨(ad.add (i * 4)).block, (ad.add (i * 4)).off + 3, none⟩ = some (.slice A3 xl.length c3) from ⟨hta.2.1, hta.2.2.2, hac.k, hac.u, hac.d, hac.l⟩)
          clear hta hac hpr hch hsub
          refine hK.out _ _ (fun _ => HS1.out) (fun _ => ?_)
          clear hK K
          try simp only [Act.put, List.setIfInBounds_toArray, List.set_cons_zero, List.set_cons_succ]
          refine wpAnyN_one (i := 13) rfl (by kernel_rfl) (fun K hK => ?_)
          go_simp
          refine hK.out _ _ (fun _ => HS1.out) (fun _ => ?_)
          clear hK K
          try simp only [Act.put, List.setIfInBounds_toArray, List.set_cons_zero, List.set_cons_succ]
          refine wpAnyN_done (by kernel_rfl) (NoPanic.normal ?_) _
          go_wp2_with fail
          go_roundg (l0.length - (i + 1))
          case measure => have := HK.out; omega
          case rel => exact ⟨i + 1, na, n', Fa, Ra, F', R', Ma, M', Aa, A', ca, c', La, L', by go_num, by omega, ⟨HN3.out.2, HN3.out.1⟩, ⟨rfl⟩, HTW3, HPA3, HPB3, HAP3, HGN3⟩
        | false =>
          go_upto_region 11 with (fail)
          obtain ⟨wd, hwd⟩ : ∃ wd, wd = wr.drew := ⟨_, rfl⟩
          have HBD := Aside0.mk (show Below wr.heap.size wr wd by rw [hwd]; exact (Below.refl _ _).drew)
          refine wp_region_noPanic (plain_need [0, 1, 2, 3, 4, 5, 6, 7, 8, 9, 10, 11, 12, 13] (fun W' => W'.cell? ⟨g1, 0, none⟩ = some (.pointer (some ⟨b1, 0, none⟩)) ∧ W'.cell? ⟨g2, 0, none⟩ = some (.pointer (some ⟨q1, 0, none⟩)) ∧ W'.cell? (ad.add (i * 4)) = some (.int .i64 xk) ∧ W'.cell? ⟨(ad.add (i * 4)).block, (ad.add (i * 4)).off + 1, none⟩ = some (.string xu) ∧ W'.cell? ⟨(ad.add (i * 4)).block, (ad.add (i * 4)).off + 2, none⟩ = some (.string xd) ∧ W'.cell? ⟨(ad.add (i * 4)).block, (ad.add (i * 4)).off + 3, none⟩ = some (.slice A3 xl.length c3)) (by kernel_rfl) ?_)
          rw [← hwd]
          clear hwd
          have HTW2 := Aside0.mk (HTWO.out.below HBD.out)
          have HPA2 := Aside0.mk (HPA.out.below HBD.out)
          have HPB2 := Aside0.mk (HPB.out.below HBD.out)
          have hta := HTW2.out.cells
          have hac := HA.out.below HPA2.out.cw.bel
          have HS0 := Aside0.mk (show wd.cell? ⟨g1, 0, none⟩ = some (.pointer (some ⟨b1, 0, none⟩)) ∧ wd.cell? ⟨g2, 0, none⟩ = some (.pointer (some ⟨q1, 0, none⟩)) ∧ wd.cell? (ad.add (i * 4)) = some (.int .i64 xk) ∧ wd.cell? ⟨(ad.add (i * 4)).block, (ad.add (i * 4)).off + 1, none⟩ = some (.string xu) ∧ wd.cell? ⟨(ad.add (i * 4)).block, (ad.add (i * 4)).off + 2, none⟩ = some (.string xd) ∧ wd.cell? ⟨(ad.add (i * 4)).block, (ad.add (i * 4)).off + 3, none⟩ = some (.slice A3 xl.length c3) from ⟨hta.1, hta.2.2.1, hac.k, hac.u, hac.d, hac.l⟩)
          clear hta hac
          have hu36 := Tryd.underlying36
          refine wpAnyN_take (i := 0) (v := ?_) rfl (by kernel_rfl) (by kernel_rfl) (by kernel_rfl) (by kernel_rfl) (fun _ _ _ h => h) (.inl ⟨by rfl, ?_⟩) HS0.out ?_
          rotate_left
          · (intro W' hW'; obtain ⟨s0, s1, s2, s3, s4, s5⟩ := hW'; go_simp; try rfl)
          simp only [Act.put, List.setIfInBounds_toArray, List.set_cons_zero, List.set_cons_succ]
          refine wpAnyN_take (i := 1) (v := ?_) rfl (by kernel_rfl) (by kernel_rfl) (by kernel_rfl) (by kernel_rfl) (fun _ _ _ h => h) (.inl ⟨by rfl, ?_⟩) HS0.out ?_
          rotate_left
          · (intro W' hW'; obtain ⟨s0, s1, s2, s3, s4, s5⟩ := hW'; go_simp; try rfl)
          simp only [Act.put, List.setIfInBounds_toArray, List.set_cons_zero, List.set_cons_succ]
          refine wpAnyN_take (i := 2) (v := ?_) rfl (by kernel_rfl) (by kernel_rfl) (by kernel_rfl) (by kernel_rfl) (fun _ _ _ h => h) (.inl ⟨by rfl, ?_⟩) HS0.out ?_
          rotate_left
          · (intro W' hW'; obtain ⟨s0, s1, s2, s3, s4, s5⟩ := hW'; go_simp; try rfl)
          simp only [Act.put, List.setIfInBounds_toArray, List.set_cons_zero, List.set_cons_succ]
          refine wpAnyN_take (i := 3) (v := ?_) rfl (by kernel_rfl) (by kernel_rfl) (by kernel_rfl) (by kernel_rfl) (fun _ _ _ h => h) (.inl ⟨by rfl, ?_⟩) HS0.out ?_
          rotate_left
          · (intro W' hW'; obtain ⟨s0, s1, s2, s3, s4, s5⟩ := hW'; go_simp; try rfl)
          simp only [Act.put, List.setIfInBounds_toArray, List.set_cons_zero, List.set_cons_succ]
          refine wpAnyN_take (i := 4) (v := ?_) rfl (by kernel_rfl) (by kernel_rfl) (by kernel_rfl) (by kernel_rfl) (fun _ _ _ h => h) (.inl ⟨by rfl, ?_⟩) HS0.out ?_
          rotate_left
          · (intro W' hW'; obtain ⟨s0, s1, s2, s3, s4, s5⟩ := hW'; go_simp; try rfl)
          simp only [Act.put, List.setIfInBounds_toArray, List.set_cons_zero, List.set_cons_succ]
          refine wpAnyN_take (i := 5) (v := ?_) rfl (by kernel_rfl) (by kernel_rfl) (by kernel_rfl) (by kernel_rfl) (fun _ _ _ h => h) (.inl ⟨by rfl, ?_⟩) HS0.out ?_
          rotate_left
          · (intro W' hW'; obtain ⟨s0, s1, s2, s3, s4, s5⟩ := hW'; go_simp; try rfl)
          simp only [Act.put, List.setIfInBounds_toArray, List.set_cons_zero, List.set_cons_succ]
          refine wpAnyN_take (i := 6) (v := ?_) rfl (by kernel_rfl) (by kernel_rfl) (by kernel_rfl) (by kernel_rfl) (fun _ _ _ h => h) (.inl ⟨by rfl, ?_⟩) HS0.out ?_
          rotate_left
          · (intro W' hW'; obtain ⟨s0, s1, s2, s3, s4, s5⟩ := hW'; go_simp; try rfl)
          simp only [Act.put, List.setIfInBounds_toArray, List.set_cons_zero, List.set_cons_succ]
          refine wpAnyN_take (i := 7) (v := ?_) rfl (by kernel_rfl) (by kernel_rfl) (by kernel_rfl) (by kernel_rfl) (fun _ _ _ h => h) (.inl ⟨by rfl, ?_⟩) HS0.out ?_
          rotate_left
          · (intro W' hW'; obtain ⟨s0, s1, s2, s3, s4, s5⟩ := hW'; go_simp; try rfl)
          simp only [Act.put, List.setIfInBounds_toArray, List.set_cons_zero, List.set_cons_succ]
          refine wpAnyN_take (i := 8) (v := ?_) rfl (by kernel_rfl) (by kernel_rfl) (by kernel_rfl) (by kernel_rfl) (fun _ _ _ h => h) (.inl ⟨by rfl, ?_⟩) HS0.out ?_
          rotate_left
          · (intro W' hW'; obtain ⟨s0, s1, s2, s3, s4, s5⟩ := hW'; go_simp; try rfl)
          simp only [Act.put, List.setIfInBounds_toArray, List.set_cons_zero, List.set_cons_succ]
          refine wpAnyN_take (i := 9) (v := ?_) rfl (by kernel_rfl) (by kernel_rfl) (by kernel_rfl) (by kernel_rfl) (fun _ _ _ h => h) (.inl ⟨by rfl, ?_⟩) HS0.out ?_
          rotate_left
          · (intro W' hW'; obtain ⟨s0, s1, s2, s3, s4, s5⟩ := hW'; go_simp; try rfl)
          simp only [Act.put, List.setIfInBounds_toArray, List.set_cons_zero, List.set_cons_succ]
          refine wpAnyN_take (i := 10) (v := ?_) rfl (by kernel_rfl) (by kernel_rfl) (by kernel_rfl) (by kernel_rfl) (fun _ _ _ h => h) (.inl ⟨by rfl, ?_⟩) HS0.out ?_
          rotate_left
          · (intro W' hW'; obtain ⟨s0, s1, s2, s3, s4, s5⟩ := hW'; go_simp; try rfl)
          simp only [Act.put, List.setIfInBounds_toArray, List.set_cons_zero, List.set_cons_succ]
          refine wpAnyN_take (i := 11) (v := ?_) rfl (by kernel_rfl) (by kernel_rfl) (by kernel_rfl) (by kernel_rfl) (fun _ _ _ h => h) (.inl ⟨by rfl, ?_⟩) HS0.out ?_
          rotate_left
          · (intro W' hW'; obtain ⟨s0, s1, s2, s3, s4, s5⟩ := hW'; go_simp; try rfl)
          simp only [Act.put, List.setIfInBounds_toArray, List.set_cons_zero, List.set_cons_succ]
          refine wpAnyN_one (i := 12) rfl (by kernel_rfl) (fun K hK => ?_)
          go_simp
          refine (one_calls HPA2.out HT.out xk xu xd A3 c3 xl HXU.out HC3.out HL3.out HXL.out (by have := HN.out; omega)).mono ?_
          rintro e w9 ⟨rfl, F', R', n', M', A', c', L', hpr, hn', hch, hsub⟩
          have HPA3 := Aside0.mk hpr
          have HPB3 := Aside0.mk (HPB2.out.other hch hpr.cw.bel (fun q hq e => HAP.out q e hq))
          have HTW3 := Aside0.mk (HTW2.out.chg hch (HGN.out _ (.inl rfl)).1 (HGN.out _ (.inr rfl)).1)
          have HN3 := Aside0.mk (show n' ≤ i + 1 ∧ nb ≤ i + 1 by have := HN.out; omega)
          have HAP3 := Aside0.mk (show ∀ q, Both F' R' q → ¬ Both Fb Rb q from fun q h1 h2 => by
            rcases hsub q h1 with h | h
            · exact HAP.out q h h2
            · rcases h2 with h2 | h2
              · have := HPB2.out.cw.lt q h2; omega
              · have := HPB2.out.lt q h2; omega)
          have HGN3 := Aside0.mk (show ∀ q, q = g1 ∨ q = g2 → ¬ Both F' R' q ∧ ¬ Both Fb Rb q from fun q hq => ⟨fun h1 => by
            rcases hsub q h1 with h | h
            · exact (HGN.out q hq).1 h
            · rcases hq with e | e
              · have := blk_lt HTW2.out.c; omega
              · have := blk_lt HTW2.out.r; omega, (HGN.out q hq).2⟩)
          have hta := HTW3.out.cells
          have hac := HA.out.below hpr.cw.bel
          have HS1 := Aside0.mk (show w9.cell? ⟨g1, 0, none⟩ = some (.pointer (some ⟨b1, 0, none⟩)) ∧ w9.cell? ⟨g2, 0, none⟩ = some (.pointer (some ⟨q1, 0, none⟩)) ∧ w9.cell? (ad.add (i * 4)) = some (.int .i64 xk) ∧ w9.cell? ⟨(ad.add (i * 4)).block, (ad.add (i * 4)).off + 1, none⟩ = some (.string xu) ∧ w9.cell? ⟨(ad.add (i * 4)).block, (ad.add (i * 4)).off + 2, none⟩ = some (.string xd) ∧ w9.cell? ⟨(ad.add (i * 4)).block, (ad.add (i * 4)).off + 3, none⟩ = some (.slice A3 xl.length c3) from ⟨hta.1, hta.2.2.1, hac.k, hac.u, hac.d, hac.l⟩)
          clear hta hac hpr hch hsub
          refine hK.out _ _ (fun _ => HS1.out) (fun _ => ?_)
          clear hK K
          try simp only [Act.put, List.setIfInBounds_toArray, List.set_cons_zero, List.set_cons_succ]
          refine wpAnyN_one (i := 13) rfl (by kernel_rfl) (fun K hK => ?_)
          go_simp
          refine hK.out _ _ (fun _ => HS1.out) (fun _ => ?_)
          clear hK K
          try simp only [Act.put, List.setIfInBounds_toArray, List.set_cons_zero, List.set_cons_succ]
          refine wpAnyN_done (by kernel_rfl) (NoPanic.normal ?_) _
          go_wp2_with fail
          go_roundg (l0.length - (i + 1))
          case measure => have := HK.out; omega
          case rel => exact ⟨i + 1, n', nb, F', R', Fb, Rb, M', Mb, A', Ab, c', cb, L', Lb, by go_num, by omega, HN3, ⟨rfl⟩, HTW3, HPA3, HPB3, HAP3, HGN3⟩
      · go_upto_region 11 with (fail)
        obtain ⟨wd, hwd⟩ : ∃ wd, wd = wr.drew := ⟨_, rfl⟩
        have HBD := Aside0.mk (show Below wr.heap.size wr wd by rw [hwd]; exact (Below.refl _ _).drew)
        refine wp_region_noPanic (plain_need [0, 1, 2, 3, 4, 5, 6, 7, 8, 9, 10, 11, 12, 13] (fun W' => W'.cell? ⟨g1, 0, none⟩ = some (.pointer (some ⟨b1, 0, none⟩)) ∧ W'.cell? ⟨g2, 0, none⟩ = some (.pointer (some ⟨q1, 0, none⟩)) ∧ W'.cell? (ad.add (i * 4)) = some (.int .i64 xk) ∧ W'.cell? ⟨(ad.add (i * 4)).block, (ad.add (i * 4)).off + 1, none⟩ = some (.string xu) ∧ W'.cell? ⟨(ad.add (i * 4)).block, (ad.add (i * 4)).off + 2, none⟩ = some (.string xd) ∧ W'.cell? ⟨(ad.add (i * 4)).block, (ad.add (i * 4)).off + 3, none⟩ = some (.slice A3 xl.length c3)) (by kernel_rfl) ?_)
        rw [← hwd]
        clear hwd
        have HTW2 := Aside0.mk (HTWO.out.below HBD.out)
        have HPA2 := Aside0.mk (HPA.out.below HBD.out)
        have HPB2 := Aside0.mk (HPB.out.below HBD.out)
        have hta := HTW2.out.cells
        have hac := HA.out.below HPA2.out.cw.bel
        have HS0 := Aside0.mk (show wd.cell? ⟨g1, 0, none⟩ = some (.pointer (some ⟨b1, 0, none⟩)) ∧ wd.cell? ⟨g2, 0, none⟩ = some (.pointer (some ⟨q1, 0, none⟩)) ∧ wd.cell? (ad.add (i * 4)) = some (.int .i64 xk) ∧ wd.cell? ⟨(ad.add (i * 4)).block, (ad.add (i * 4)).off + 1, none⟩ = some (.string xu) ∧ wd.cell? ⟨(ad.add (i * 4)).block, (ad.add (i * 4)).off + 2, none⟩ = some (.string xd) ∧ wd.cell? ⟨(ad.add (i * 4)).block, (ad.add (i * 4)).off + 3, none⟩ = some (.slice A3 xl.length c3) from ⟨hta.1, hta.2.2.1, hac.k, hac.u, hac.d, hac.l⟩)
        clear hta hac
        have hu36 := Tryd.underlying36
        refine wpAnyN_take (i := 0) (v := ?_) rfl (by kernel_rfl) (by kernel_rfl) (by kernel_rfl) (by kernel_rfl) (fun _ _ _ h => h) (.inl ⟨by rfl, ?_⟩) HS0.out ?_
        rotate_left
        · (intro W' hW'; obtain ⟨s0, s1, s2, s3, s4, s5⟩ := hW'; go_simp; try rfl)
        simp only [Act.put, List.setIfInBounds_toArray, List.set_cons_zero, List.set_cons_succ]
        refine wpAnyN_take (i := 1) (v := ?_) rfl (by kernel_rfl) (by kernel_rfl) (by kernel_rfl) (by kernel_rfl) (fun _ _ _ h => h) (.inl ⟨by rfl, ?_⟩) HS0.out ?_
        rotate_left
        · (intro W' hW'; obtain ⟨s0, s1, s2, s3, s4, s5⟩ := hW'; go_simp; try rfl)
        simp only [Act.put, List.setIfInBounds_toArray, List.set_cons_zero, List.set_cons_succ]
        refine wpAnyN_take (i := 2) (v := ?_) rfl (by kernel_rfl) (by kernel_rfl) (by kernel_rfl) (by kernel_rfl) (fun _ _ _ h => h) (.inl ⟨by rfl, ?_⟩) HS0.out ?_
        rotate_left
        · (intro W' hW'; obtain ⟨s0, s1, s2, s3, s4, s5⟩ := hW'; go_simp; try rfl)
        simp only [Act.put, List.setIfInBounds_toArray, List.set_cons_zero, List.set_cons_succ]
        refine wpAnyN_take (i := 3) (v := ?_) rfl (by kernel_rfl) (by kernel_rfl) (by kernel_rfl) (by kernel_rfl) (fun _ _ _ h => h) (.inl ⟨by rfl, ?_⟩) HS0.out ?_
        rotate_left
        · (intro W' hW'; obtain ⟨s0, s1, s2, s3, s4, s5⟩ := hW'; go_simp; try rfl)
        simp only [Act.put, List.setIfInBounds_toArray, List.set_cons_zero, List.set_cons_succ]
        refine wpAnyN_take (i := 4) (v := ?_) rfl (by kernel_rfl) (by kernel_rfl) (by kernel_rfl) (by kernel_rfl) (fun _ _ _ h => h) (.inl ⟨by rfl, ?_⟩) HS0.out ?_
        rotate_left
        · (intro W' hW'; obtain ⟨s0, s1, s2, s3, s4, s5⟩ := hW'; go_simp; try rfl)
        simp only [Act.put, List.setIfInBounds_toArray, List.set_cons_zero, List.set_cons_succ]
        refine wpAnyN_take (i := 5) (v := ?_) rfl (by kernel_rfl) (by kernel_rfl) (by kernel_rfl) (by kernel_rfl) (fun _ _ _ h => h) (.inl ⟨by rfl, ?_⟩) HS0.out ?_
        rotate_left
        · (intro W' hW'; obtain ⟨s0, s1, s2, s3, s4, s5⟩ := hW'; go_simp; try rfl)
        simp only [Act.put, List.setIfInBounds_toArray, List.set_cons_zero, List.set_cons_succ]
        refine wpAnyN_take (i := 6) (v := ?_) rfl (by kernel_rfl) (by kernel_rfl) (by kernel_rfl) (by kernel_rfl) (fun _ _ _ h => h) (.inl ⟨by rfl, ?_⟩) HS0.out ?_
        rotate_left
        · (intro W' hW'; obtain ⟨s0, s1, s2, s3, s4, s5⟩ := hW'; go_simp; try rfl)
        simp only [Act.put, List.setIfInBounds_toArray, List.set_cons_zero, List.set_cons_succ]
        refine wpAnyN_take (i := 7) (v := ?_) rfl (by kernel_rfl) (by kernel_rfl) (by kernel_rfl) (by kernel_rfl) (fun _ _ _ h => h) (.inl ⟨by rfl, ?_⟩) HS0.out ?_
        rotate_left
        · (intro W' hW'; obtain ⟨s0, s1, s2, s3, s4, s5⟩ := hW'; go_simp; try rfl)
        simp only [Act.put, List.setIfInBounds_toArray, List.set_cons_zero, List.set_cons_succ]
        refine wpAnyN_take (i := 8) (v := ?_) rfl (by kernel_rfl) (by kernel_rfl) (by kernel_rfl) (by kernel_rfl) (fun _ _ _ h => h) (.inl ⟨by rfl, ?_⟩) HS0.out ?_
        rotate_left
        · (intro W' hW'; obtain ⟨s0, s1, s2, s3, s4, s5⟩ := hW'; go_simp; try rfl)
        simp only [Act.put, List.setIfInBounds_toArray, List.set_cons_zero, List.set_cons_succ]
        refine wpAnyN_take (i := 9) (v := ?_) rfl (by kernel_rfl) (by kernel_rfl) (by kernel_rfl) (by kernel_rfl) (fun _ _ _ h => h) (.inl ⟨by rfl, ?_⟩) HS0.out ?_
        rotate_left
        · (intro W' hW'; obtain ⟨s0, s1, s2, s3, s4, s5⟩ := hW'; go_simp; try rfl)
        simp only [Act.put, List.setIfInBounds_toArray, List.set_cons_zero, List.set_cons_succ]
        refine wpAnyN_take (i := 10) (v := ?_) rfl (by kernel_rfl) (by kernel_rfl) (by kernel_rfl) (by kernel_rfl) (fun _ _ _ h => h) (.inl ⟨by rfl, ?_⟩) HS0.out ?_
        rotate_left
        · (intro W' hW'; obtain ⟨s0, s1, s2, s3, s4, s5⟩ := hW'; go_simp; try rfl)
        simp only [Act.put, List.setIfInBounds_toArray, List.set_cons_zero, List.set_cons_succ]
        refine wpAnyN_take (i := 11) (v := ?_) rfl (by kernel_rfl) (by kernel_rfl) (by kernel_rfl) (by kernel_rfl) (fun _ _ _ h => h) (.inl ⟨by rfl, ?_⟩) HS0.out ?_
        rotate_left
        · (intro W' hW'; obtain ⟨s0, s1, s2, s3, s4, s5⟩ := hW'; go_simp; try rfl)
        simp only [Act.put, List.setIfInBounds_toArray, List.set_cons_zero, List.set_cons_succ]
        refine wpAnyN_one (i := 12) rfl (by kernel_rfl) (fun K hK => ?_)
        go_simp
        refine (one_calls HPA2.out HT.out xk xu xd A3 c3 xl HXU.out HC3.out HL3.out HXL.out (by have := HN.out; omega)).mono ?_
        rintro e w9 ⟨rfl, F', R', n', M', A', c', L', hpr, hn', hch, hsub⟩
        have HPA3 := Aside0.mk hpr
        have HPB3 := Aside0.mk (HPB2.out.other hch hpr.cw.bel (fun q hq e => HAP.out q e hq))
        have HTW3 := Aside0.mk (HTW2.out.chg hch (HGN.out _ (.inl rfl)).1 (HGN.out _ (.inr rfl)).1)
        have HN3 := Aside0.mk (show n' ≤ i + 1 ∧ nb ≤ i + 1 by have := HN.out; omega)
        have HAP3 := Aside0.mk (show ∀ q, Both F' R' q → ¬ Both Fb Rb q from fun q h1 h2 => by
          rcases hsub q h1 with h | h
          · exact HAP.out q h h2
          · rcases h2 with h2 | h2
            · have := HPB2.out.cw.lt q h2; omega
            · have := HPB2.out.lt q h2; omega)
        have HGN3 := Aside0.mk (show ∀ q, q = g1 ∨ q = g2 → ¬ Both F' R' q ∧ ¬ Both Fb Rb q from fun q hq => ⟨fun h1 => by
          rcases hsub q h1 with h | h
          · exact (HGN.out q hq).1 h
          · rcases hq with e | e
            · have := blk_lt HTW2.out.c; omega
            · have := blk_lt HTW2.out.r; omega, (HGN.out q hq).2⟩)
        have hta := HTW3.out.cells
        have hac := HA.out.below hpr.cw.bel
        have HS1 := Aside0.mk (show w9.cell? ⟨g1, 0, none⟩ = some (.pointer (some ⟨b1, 0, none⟩)) ∧ w9.cell? ⟨g2, 0, none⟩ = some (.pointer (some ⟨q1, 0, none⟩)) ∧ w9.cell? (ad.add (i * 4)) = some (.int .i64 xk) ∧ w9.cell? ⟨(ad.add (i * 4)).block, (ad.add (i * 4)).off + 1, none⟩ = some (.string xu) ∧ w9.cell? ⟨(ad.add (i * 4)).block, (ad.add (i * 4)).off + 2, none⟩ = some (.string xd) ∧ w9.cell? ⟨(ad.add (i * 4)).block, (ad.add (i * 4)).off + 3, none⟩ = some (.slice A3 xl.length c3) from ⟨hta.1, hta.2.2.1, hac.k, hac.u, hac.d, hac.l⟩)
        clear hta hac hpr hch hsub
        refine hK.out _ _ (fun _ => HS1.out) (fun _ => ?_)
        clear hK K
        try simp only [Act.put, List.setIfInBounds_toArray, List.set_cons_zero, List.set_cons_succ]
        refine wpAnyN_one (i := 13) rfl (by kernel_rfl) (fun K hK => ?_)
        go_simp
        refine hK.out _ _ (fun _ => HS1.out) (fun _ => ?_)
        clear hK K
        try simp only [Act.put, List.setIfInBounds_toArray, List.set_cons_zero, List.set_cons_succ]
        refine wpAnyN_done (by kernel_rfl) (NoPanic.normal ?_) _
        go_wp2_with fail
        go_roundg (l0.length - (i + 1))
        case measure => have := HK.out; omega
        case rel => exact ⟨i + 1, n', nb, F', R', Fb, Rb, M', Mb, A', Ab, c', cb, L', Lb, by go_num, by omega, HN3, ⟨rfl⟩, HTW3, HPA3, HPB3, HAP3, HGN3⟩
    · have hie : i = l0.length := by omega
      subst hie
      go_wp2_with fail
      go_ret
      exact ⟨rfl, HPA.out.cw.bel⟩
end Go.Proofs.YtaphacgdokhmmaaDoor.H
