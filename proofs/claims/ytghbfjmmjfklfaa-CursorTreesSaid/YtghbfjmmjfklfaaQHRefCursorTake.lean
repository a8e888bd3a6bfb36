/- (*glossatorref17.Cursor).Take. -/
import Derived.Test.YtghbfjmmjfklfaaQHRefCursorNew
import Derived.Test.YtghbfjmmjfklfaaQPureCursorRef
set_option linter.unusedVariables false
set_option linter.unusedSimpArgs false
namespace Go.Proofs.Ytghbfjmmjfklfaa.H
open Go.RowKit Go.Proofs.YtghbfjmmjfklfaaW.PrintWords Go.Proofs.YtghbfjmmjfklfaaW.PrintLast Go.Proofs.YtghbfjmmjfklfaaW.PrintMore
def hitB (cl a : Int) (x : Part3) : Bool := decide (x.2.2 ≠ 0) && decide (x.2.1 = a) && decide (cl ∈ clsN x.1.k)
def rtakeF (fi oe ne : Int) (L : List Part3) (l : List S39) (cl at_ : Int) : Option (AT × Int) :=
  if at_ < 0 ∨ (fi ≤ at_ ∧ at_ < ne) then none else
  match L.find? (hitB cl (if fi ≤ at_ then IntKind.i64.wrap (at_ - ne + oe) else at_)) with
  | none => none
  | some x => if at_ < fi ∧ fi ≤ (bh l (x.2.1 + x.2.2).toNat : Int) then none else some (x.1, x.2.2)
def RTakePost (w0 W : World) (n0 g : Nat) (v : Value) (fi oe ne : Int) (L : List Part3) (Al : Option Addr) (cl : Nat) (l : List S39) (o : Option (AT × Int)) (e : Ending) (W' : World) : Prop :=
  Below W.heap.size W W' ∧ ((o = none ∧ e = .returned (.tuple #[zNode, .int .i64 0, .bool false])) ∨ ∃ T n, o = some (T, n) ∧ e = .returned (.tuple #[T.val, .int .i64 n, .bool true]))
theorem part_at {W : World} {A : Option Addr} {L : List Part3} (h : Kd.C (Kd.raw 6) W A (L.map rawP).length (L.map rawP)) (i : Nat) (hi : i < L.length) (x : Part3) (hx : L[i]? = some x) : ∃ ad, A = some ad ∧ W.cell? (ad.add (i * 6)) = some (.int .u8 x.1.k) ∧ (∀ j u, 0 < j → (rawP x)[j]? = some u → W.cell? ⟨(ad.add (i * 6)).block, (ad.add (i * 6)).off + j, none⟩ = some u) := by
  obtain ⟨ad, c, e, _, hK, hc0⟩ := Kd.C_get h [] (i : Int) (by omega) (by simpa using hi)
  have hc : ∀ j u, c[j]? = some u → W.cell? (ad.add (i * 6 + j)) = some u := fun j u hu => by have := hc0 j u hu; rw [Int.toNat_natCast] at this; exact this
  have hc' : c = rawP x := by
    have h1 := hK.1
    rw [h1, Int.toNat_natCast, List.getD_eq_getElem?_getD, List.getElem?_map, hx]
    rfl
  subst hc'
  refine ⟨ad, e, by simpa using hc 0 _ rfl, fun j u hj hu => ?_⟩
  rw [← add_field _ _ j hj]
  exact hc j u hu
theorem find_take {p : Part3 → Bool} {L : List Part3} {i : Nat} {x : Part3} (hx : L[i]? = some x) (h0 : (L.take i).find? p = none) (hp : p x = false) : (L.take (i + 1)).find? p = none := by
  rw [List.take_add_one, hx, List.find?_append, h0]
  simp [hp]
theorem find_hit {p : Part3 → Bool} {L : List Part3} {i : Nat} {x : Part3} (hx : L[i]? = some x) (h0 : (L.take i).find? p = none) (hp : p x = true) : L.find? p = some x := by
  have hd : L.drop i = x :: L.drop (i + 1) := by
    obtain ⟨hi, e⟩ := List.getElem?_eq_some_iff.1 hx
    rw [List.drop_eq_getElem_cons hi, e]
  rw [← List.take_append_drop i L, List.find?_append, h0, hd]
  simp [hp]
set_option maxHeartbeats 8000000 in
set_option maxRecDepth 100000 in
theorem rtake_calls {w0 W : World} {n0 g : Nat} {v : Value} {fi oe ne : Int} {L : List Part3} {Al : Option Addr} {cp : Nat} {l : List S39} (h : RN w0 W n0 g v fi oe ne L Al cp l) (hcp : l.length ≤ cp) (hl : l.length ≤ 1000000) (hk : ∀ t ∈ l, 0 ≤ t.f0) (hL : ∀ x ∈ L, AtT w0 x.1 ∧ 0 ≤ x.2.1 ∧ 0 ≤ x.2.2 ∧ x.2.1 + x.2.2 ≤ l.length) (hLl : L.length ≤ 1000000) (hw0 : Below w0.heap.size w0 W) (hfi : 0 ≤ fi ∧ fi ≤ ne ∧ ne ≤ 1048576 ∧ 0 ≤ oe ∧ oe ≤ 1000000) (cl at_ : Int) (hcl : 0 ≤ cl ∧ cl ≤ 255) (hat : inI at_) :
    Calls Try.prog 15 #[.pointer (some ⟨g, 0, none⟩), .int .u8 cl, .int .i64 at_] W fun e W' => RTakePost w0 W n0 g v fi oe ne L Al cp l (rtakeF fi oe ne L l cl at_) e W' := by
  obtain ⟨X, hX⟩ : ∃ V, V = W.alloc (.cells #[.int .u8 0, .int .u8 0, .int .i64 0, .slice none 0 0] 27) := ⟨_, rfl⟩
  have HBX := Aside0.mk (show Below W.heap.size W X by rw [hX]; exact below_alloc (Below.refl _ _) _)
  have HRX := Aside0.mk (show X.heap[W.heap.size]? = some (.cells #[.int .u8 0, .int .u8 0, .int .i64 0, .slice none 0 0] 27 (0, 0)) by rw [hX]; exact heap_alloc_new _ _)
  obtain ⟨Av, cv, e⟩ := Kd.R_slice h.row
  rw [List.length_map] at e
  subst e
  have HC := Aside0.mk (h.below HBX.out)
  have HLL := Aside0.mk hL
  have HKK := Aside0.mk hk
  have HCP := Aside0.mk hcp
  have HW0 := Aside0.mk (below_step hw0 (by have := HBX.out; exact this))
  have hu := Try.underlying27
  have huc := Try.underlying83
  have hup := Try.underlying90
  unfold inI at hat
  clear h hL hk hcp hw0
  go_enter Try.func15, Try.ntmps15
  go_upto_region 1 with (fail)
  change Code.wp Try.prog _ _ _ (W.alloc (.cells #[.int .u8 0, .int .u8 0, .int .i64 0, .slice none 0 0] 27))
  rw [← hX]
  clear hX
  have p0 := blk_cell HRX.out 0
  have p1 := blk_cell HRX.out 1
  have p2 := blk_cell HRX.out 2
  have p3 := blk_cell HRX.out 3
  have f0 := blk_frozen HRX.out 0
  have f1 := blk_frozen HRX.out 1
  have f2 := blk_frozen HRX.out 2
  have f3 := blk_frozen HRX.out 3
  have lX := blk_lt HRX.out
  simp at p0 p1 p2 p3
  have c0 := blk_cell HC.out.cur 0
  have c1 := blk_cell HC.out.cur 1
  have c2 := blk_cell HC.out.cur 2
  have c3 := blk_cell HC.out.cur 3
  have c4 := blk_cell HC.out.cur 4
  have lg := blk_lt HC.out.cur
  simp at c0 c1 c2 c3 c4
  have NONE : ∀ Z, Below X.heap.size X Z → rtakeF fi oe ne L l cl at_ = none → RTakePost w0 W n0 g (.slice Av L.length cv) fi oe ne L Al cp l (rtakeF fi oe ne L l cl at_) (.returned (.tuple #[zNode, .int .i64 0, .bool false])) (put4 Z W.heap.size (.int .u8 0) (.int .u8 0) (.int .i64 0) (.slice none 0 0)) :=
    fun Z hZ ht => ⟨put4_below (below_step HBX.out hZ) (Nat.le_refl _) _ _ _ _, .inl ⟨ht, rfl⟩⟩
  have NONE := Aside0.mk NONE
  have SOME : ∀ Y T n, Below X.heap.size X Y → rtakeF fi oe ne L l cl at_ = some (T, n) → RTakePost w0 W n0 g (.slice Av L.length cv) fi oe ne L Al cp l (rtakeF fi oe ne L l cl at_) (.returned (.tuple #[T.val, .int .i64 n, .bool true])) (put4 Y W.heap.size (.int .u8 T.k) (.int .u8 T.w) (.int .i64 T.wd) (.slice T.A T.kids.length T.c)) :=
    fun Y T n hY ht => ⟨put4_below (below_step HBX.out hY) (Nat.le_refl _) _ _ _ _, .inr ⟨T, n, ht, rfl⟩⟩
  have SOME := Aside0.mk SOME
  by_cases h1 : at_ < 0
  · have HT := Aside0.mk (show rtakeF fi oe ne L l cl at_ = none by unfold rtakeF; rw [if_pos (.inl h1)])
    go_wp2
    refine bodyPost_ret (results_ctt rfl _ _ W.heap.size 27 _ (0, 0) _ rfl (put4_at HRX.out _ _ _ _) Try.underlying27 rfl (by kernel_rfl)) rfl ?_
    exact NONE.out X (Below.refl _ _) HT.out
  by_cases h2 : fi ≤ at_
  · by_cases h3 : at_ < ne
    · have HT := Aside0.mk (show rtakeF fi oe ne L l cl at_ = none by unfold rtakeF; rw [if_pos (.inr ⟨h2, h3⟩)])
      go_wp2
      refine bodyPost_ret (results_ctt rfl _ _ W.heap.size 27 _ (0, 0) _ rfl (put4_at HRX.out _ _ _ _) Try.underlying27 rfl (by kernel_rfl)) rfl ?_
      exact NONE.out X (Below.refl _ _) HT.out
    obtain ⟨a, ha⟩ : ∃ a, a = IntKind.i64.wrap (at_ - ne + oe) := ⟨_, rfl⟩
    have HTE := Aside0.mk (show rtakeF fi oe ne L l cl at_ = match L.find? (hitB cl a) with | none => none | some x => if at_ < fi ∧ fi ≤ (bh l (x.2.1 + x.2.2).toNat : Int) then none else some (x.1, x.2.2) by unfold rtakeF; rw [if_neg (by omega), if_pos h2, ha])
    have hdf : decide (at_ < fi) = false := decide_eq_false (by omega)
    have HNF := Aside0.mk (show ¬ at_ < fi by omega)
    have hw2 : IntKind.i64.wrap (at_ - ne + oe) = a := ha.symm
    have hw1 : IntKind.i64.wrap (at_ - ne) = at_ - ne := IntWalk.i64_in _ ⟨by omega, by omega⟩
    clear ha
    go_upto_region 5 with (fail)
    go_quiet (fail)
    go_upto_region 7 with (fail)
    clear hw1 hw2 h3
    obtain ⟨Z, hZ⟩ : ∃ V : World, V = X.drewN nq := ⟨_, rfl⟩
    have HBZ := Aside0.mk (show Below X.heap.size X Z by rw [hZ]; exact ⟨rfl, rfl, rfl, Nat.le_refl _, fun _ _ => rfl⟩)
    rw [← hZ]
    clear hZ c0 c1 c2 c3 c4 lg p0 p1 p2 p3 f0 f1 f2 f3 lX
    have HX0 := Aside0.mk (show ∀ w', Below X.heap.size X w' → RN w0 w' n0 g (.slice Av L.length cv) fi oe ne L Al cp l ∧ Below w0.heap.size w0 w' from fun w' h => ⟨HC.out.below h, below_step HW0.out h⟩)
    go_loopg [10] L.length (fun kq v10 w' => ∃ (i : Nat), v10 = .int .i64 i ∧ i ≤ L.length ∧ Aside0 (kq = L.length - i) ∧ Aside0 (Below X.heap.size X w') ∧ Aside0 ((L.take i).find? (hitB cl a) = none))
    case atStart => exact ⟨0, rfl, Nat.zero_le _, ⟨rfl⟩, HBZ, ⟨by simp⟩⟩
    case round =>
      obtain ⟨i, rfl, hi, HKQ, HBI, HFI⟩ := hrel
      obtain ⟨HRN, HWN⟩ : Aside0 (RN w0 wr n0 g (.slice Av L.length cv) fi oe ne L Al cp l) ∧ Aside0 (Below w0.heap.size w0 wr) := ⟨⟨(HX0.out wr HBI.out).1⟩, ⟨(HX0.out wr HBI.out).2⟩⟩
      have c0 := blk_cell HRN.out.cur 0
      have c1 := blk_cell HRN.out.cur 1
      have c2 := blk_cell HRN.out.cur 2
      have c3 := blk_cell HRN.out.cur 3
      have c4 := blk_cell HRN.out.cur 4
      have lg := blk_lt HRN.out.cur
      simp at c0 c1 c2 c3 c4
      by_cases hlt : i < L.length
      · obtain ⟨x, hxe⟩ : ∃ x, x = L[i] := ⟨_, rfl⟩
        have hxi : L[i]? = some x := by rw [hxe]; exact List.getElem?_eq_getElem hlt
        obtain ⟨ada, e0, q0, qq⟩ := part_at (Kd.R_reads' HRN.out.row).2.2 i hlt x hxi
        subst e0
        obtain ⟨hxT, hx0, hx1, hx2⟩ := HLL.out x (by rw [hxe]; exact List.getElem_mem hlt)
        clear hxe
        obtain ⟨⟨yk, yw, yd, yA, yc, yl⟩, pa, pn⟩ := x
        simp only [AT.k, AT.w, AT.wd, AT.A, AT.c, AT.kids] at q0 hx0 hx1 hx2 hxT
        have q1 := qq 1 _ (by decide) rfl
        have q2 := qq 2 _ (by decide) rfl
        have q3 := qq 3 _ (by decide) rfl
        have q4 := qq 4 _ (by decide) rfl
        have q5 := qq 5 _ (by decide) rfl
        simp only [AT.k, AT.w, AT.wd, AT.A, AT.c, AT.kids] at q1 q2 q3 q4 q5
        have HXI := Aside0.mk hxi
        have HXT := Aside0.mk hxT
        clear hxi hxT qq
        go_upto_region 10 with (fail)
        obtain ⟨Y, hY⟩ : ∃ V : World, V = wr.alloc (.cells #[.int .u8 yk, .int .u8 yw, .int .i64 yd, .slice yA yl.length yc, .int .i64 pa, .int .i64 pn] 90) := ⟨_, rfl⟩
        change Code.wp Try.prog _ _ _ (wr.alloc (.cells #[.int .u8 yk, .int .u8 yw, .int .i64 yd, .slice yA yl.length yc, .int .i64 pa, .int .i64 pn] 90))
        have HBY := Aside0.mk (show Below wr.heap.size wr Y by rw [hY]; exact below_alloc (Below.refl _ _) _)
        have hpy : Y.heap[wr.heap.size]? = some (.cells #[.int .u8 yk, .int .u8 yw, .int .i64 yd, .slice yA yl.length yc, .int .i64 pa, .int .i64 pn] 90 (0, 0)) := by rw [hY]; exact heap_alloc_new _ _
        rw [← hY]
        clear hY c0 c1 c2 c3 c4 lg q0 q1 q2 q3 q4 q5
        have HPY := Aside0.mk hpy
        have HXY := Aside0.mk (below_step HBI.out (by have := HBY.out; exact this))
        have y0 := blk_cell hpy 0
        have y1 := blk_cell hpy 1
        have y2 := blk_cell hpy 2
        have y3 := blk_cell hpy 3
        have y4 := blk_cell hpy 4
        have y5 := blk_cell hpy 5
        have lY := blk_lt hpy
        simp at y0 y1 y2 y3 y4 y5
        clear hpy
        by_cases e1 : pn = 0
        · have HIT := Aside0.mk (show hitB cl a (.node yk yw yd yA yc yl, pa, pn) = false by simp [hitB, e1])
          go_wp2
          go_roundg (L.length - (i + 1))
          case measure => have := HKQ.out; omega
          case rel => exact ⟨i + 1, by go_num, by omega, ⟨rfl⟩, ⟨HXY.out⟩, ⟨find_take HXI.out HFI.out (HIT.out)⟩⟩
        by_cases e2 : pa = a
        · subst e2
          have hCk := C_of_AT _ _ (Nat.lt_succ_self _) w0 HXT.out
          simp only [AT.A, AT.kids] at hCk
          have hkc : yl.length ≤ yc := by have := HXT.out; simp only [AtT] at this; exact this.1
          have HWY := Aside0.mk (below_step HWN.out (by have := HBY.out; exact this))
          have hel := eraseL_length yl
          have hcall := glossatorref17_of.calls 1 yk yw yd yA yc (eraseL yl) cl (decide (cl ∈ clsN yk)) Y (by rw [hel]; exact Kd.C_below hCk HWY.out) (by rw [hel]; exact hkc) (of_f yk yw yd (eraseL yl) cl)
          rw [hel] at hcall
          clear hCk hkc hel
          obtain ⟨ob, hob⟩ : ∃ ob, ob = decide (cl ∈ clsN yk) := ⟨_, rfl⟩
          rw [← hob] at hcall
          have HOB := Aside0.mk hob
          clear hob
          cases ob with
          | false =>
            have HIT := Aside0.mk (show hitB cl pa (.node yk yw yd yA yc yl, pa, pn) = false by have h : ¬ cl ∈ clsN yk := of_decide_eq_false HOB.out.symm; simp [hitB, AT.k, h])
            go_wp2_with (go_at_call 42; refine hcall.mono ?_; rintro e w5 ⟨rfl, hb5⟩; have HB5 := Aside0.mk hb5; clear hb5 hcall)
            go_roundg (L.length - (i + 1))
            case measure => have := HKQ.out; omega
            case rel => exact ⟨i + 1, by go_num, by omega, ⟨rfl⟩, ⟨below_step HXY.out HB5.out⟩, ⟨find_take HXI.out HFI.out (HIT.out)⟩⟩
          | true =>
            have HIT := Aside0.mk (show hitB cl pa (.node yk yw yd yA yc yl, pa, pn) = true by have h : cl ∈ clsN yk := of_decide_eq_true HOB.out.symm; simp [hitB, AT.k, h, e1])
            have HTH := Aside0.mk (show rtakeF fi oe ne L l cl at_ = if at_ < fi ∧ fi ≤ (bh l (pa + pn).toNat : Int) then none else some (.node yk yw yd yA yc yl, pn) by rw [HTE.out, find_hit HXI.out HFI.out HIT.out])
            go_upto_region 11 with (go_at_call 42; refine hcall.mono ?_; rintro e w5 ⟨rfl, hb5⟩; have HB5 := Aside0.mk hb5; clear hb5 hcall)
            have hpv := blk_below HPY.out HB5.out
            have HX5 := Aside0.mk (below_step HXY.out HB5.out)
            have HRN5 := Aside0.mk (HX0.out w5 HX5.out).1
            clear y0 y1 y2 y3 y4 y5 lY
            have y0 := blk_cell hpv 0
            have y1 := blk_cell hpv 1
            have y2 := blk_cell hpv 2
            have y3 := blk_cell hpv 3
            have y4 := blk_cell hpv 4
            have y5 := blk_cell hpv 5
            have lY := blk_lt hpv
            simp at y0 y1 y2 y3 y4 y5
            have c0 := blk_cell HRN5.out.cur 0
            have c1 := blk_cell HRN5.out.cur 1
            have c2 := blk_cell HRN5.out.cur 2
            have c3 := blk_cell HRN5.out.cur 3
            have c4 := blk_cell HRN5.out.cur 4
            have lg := blk_lt HRN5.out.cur
            simp at c0 c1 c2 c3 c4
            have HPV := Aside0.mk hpv
            clear hpv
            have HT := Aside0.mk (show rtakeF fi oe ne L l cl at_ = some (.node yk yw yd yA yc yl, pn) by rw [HTH.out, if_neg (fun h => by have h1 := h.1; have h2 := HNF.out; omega)])
            go_wp2
            go_quiet (fail)
            go_upto_region 13 with (fail)
            obtain ⟨V2, hV2⟩ : ∃ V : World, V = w5.drewN nq := ⟨_, rfl⟩
            have HBV := Aside0.mk (show Below X.heap.size X V2 by rw [hV2]; exact ⟨HX5.out.os, HX5.out.tape, HX5.out.output, HX5.out.size, HX5.out.block⟩)
            have HPN := Aside0.mk (show V2.heap[wr.heap.size]? = some (.cells #[.int .u8 yk, .int .u8 yw, .int .i64 yd, .slice yA yl.length yc, .int .i64 pa, .int .i64 pn] 90 (0, 0)) by rw [hV2]; exact HPV.out)
            change Code.wp Try.prog _ _ _ (w5.drewN nq)
            rw [← hV2]
            clear hV2 y0 y1 y2 y3 y4 y5 lY c0 c1 c2 c3 c4 lg
            have hrn := (HBV.out.block _ (blk_lt HRX.out)).trans HRX.out
            have p0 := blk_cell hrn 0
            have p1 := blk_cell hrn 1
            have p2 := blk_cell hrn 2
            have p3 := blk_cell hrn 3
            have f0 := blk_frozen hrn 0
            have f1 := blk_frozen hrn 1
            have f2 := blk_frozen hrn 2
            have f3 := blk_frozen hrn 3
            have lX := blk_lt hrn
            simp at p0 p1 p2 p3
            have HRN3 := Aside0.mk hrn
            clear hrn
            have HZW := Aside0.mk (show wr.heap.size ≠ W.heap.size by have := HBI.out.size; have := blk_lt HRX.out; omega)
            refine wp_region_noPanic (plain_need [0, 1, 2, 3, 4, 5, 6] (fun W' => W'.heap[wr.heap.size]? = some (.cells #[.int .u8 yk, .int .u8 yw, .int .i64 yd, .slice yA yl.length yc, .int .i64 pa, .int .i64 pn] 90 (0, 0))) mixE ?_)
            refine wpAnyN_take (i := 0) (v := ?_) rfl (by kernel_rfl) (by kernel_rfl) (by kernel_rfl) (by kernel_rfl) (fun _ _ _ h => h) (.inl ⟨by rfl, ?_⟩) HPN.out ?_
            rotate_left
            · (intro W' hW'; have s0 := blk_cell hW' 0; have s1 := blk_cell hW' 1; have s2 := blk_cell hW' 2; have s3 := blk_cell hW' 3; have s4 := blk_cell hW' 4; have s6 := blk_cell hW' 5; have s5 := blk_lt hW'; simp at s0 s1 s2 s3 s4 s6; go_simp; try rfl)
            simp only [Act.put, List.setIfInBounds_toArray, List.set_cons_zero, List.set_cons_succ]
            refine wpAnyN_take (i := 1) (v := ?_) rfl (by kernel_rfl) (by kernel_rfl) (by kernel_rfl) (by kernel_rfl) (fun _ _ _ h => h) (.inl ⟨by rfl, ?_⟩) HPN.out ?_
            rotate_left
            · (intro W' hW'; have s0 := blk_cell hW' 0; have s1 := blk_cell hW' 1; have s2 := blk_cell hW' 2; have s3 := blk_cell hW' 3; have s4 := blk_cell hW' 4; have s6 := blk_cell hW' 5; have s5 := blk_lt hW'; simp at s0 s1 s2 s3 s4 s6; go_simp; try rfl)
            simp only [Act.put, List.setIfInBounds_toArray, List.set_cons_zero, List.set_cons_succ]
            refine wpAnyN_take (i := 2) (v := ?_) rfl (by kernel_rfl) (by kernel_rfl) (by kernel_rfl) (by kernel_rfl) (fun _ _ _ h => h) (.inl ⟨by rfl, ?_⟩) HPN.out ?_
            rotate_left
            · (intro W' hW'; have s0 := blk_cell hW' 0; have s1 := blk_cell hW' 1; have s2 := blk_cell hW' 2; have s3 := blk_cell hW' 3; have s4 := blk_cell hW' 4; have s6 := blk_cell hW' 5; have s5 := blk_lt hW'; simp at s0 s1 s2 s3 s4 s6; go_simp; try rfl)
            simp only [Act.put, List.setIfInBounds_toArray, List.set_cons_zero, List.set_cons_succ]
            refine wpAnyN_take (i := 3) (v := ?_) rfl (by kernel_rfl) (by kernel_rfl) (by kernel_rfl) (by kernel_rfl) (fun _ _ _ h => h) (.inl ⟨by rfl, ?_⟩) HPN.out ?_
            rotate_left
            · (intro W' hW'; have s0 := blk_cell hW' 0; have s1 := blk_cell hW' 1; have s2 := blk_cell hW' 2; have s3 := blk_cell hW' 3; have s4 := blk_cell hW' 4; have s6 := blk_cell hW' 5; have s5 := blk_lt hW'; simp at s0 s1 s2 s3 s4 s6; go_simp; try rfl)
            simp only [Act.put, List.setIfInBounds_toArray, List.set_cons_zero, List.set_cons_succ]
            refine wpAnyN_one (i := 4) rfl (by kernel_rfl) (fun K hK => ?_)
            go_simp
            refine hK.out _ _ (fun _ => (put4_other HZW.out _ _ _ _).trans HPN.out) (fun _ => ?_)
            clear hK K
            refine wpAnyN_take (i := 5) (v := ?_) rfl (by kernel_rfl) (by kernel_rfl) (by kernel_rfl) (by kernel_rfl) (fun _ _ _ h => h) (.inl ⟨by rfl, ?_⟩) ((put4_other HZW.out _ _ _ _).trans HPN.out) ?_
            rotate_left
            · (intro W' hW'; have s0 := blk_cell hW' 0; have s1 := blk_cell hW' 1; have s2 := blk_cell hW' 2; have s3 := blk_cell hW' 3; have s4 := blk_cell hW' 4; have s6 := blk_cell hW' 5; have s5 := blk_lt hW'; simp at s0 s1 s2 s3 s4 s6; go_simp; try rfl)
            simp only [Act.put, List.setIfInBounds_toArray, List.set_cons_zero, List.set_cons_succ]
            refine wpAnyN_take (i := 6) (v := ?_) rfl (by kernel_rfl) (by kernel_rfl) (by kernel_rfl) (by kernel_rfl) (fun _ _ _ h => h) (.inl ⟨by rfl, ?_⟩) ((put4_other HZW.out _ _ _ _).trans HPN.out) ?_
            rotate_left
            · (intro W' hW'; have s0 := blk_cell hW' 0; have s1 := blk_cell hW' 1; have s2 := blk_cell hW' 2; have s3 := blk_cell hW' 3; have s4 := blk_cell hW' 4; have s6 := blk_cell hW' 5; have s5 := blk_lt hW'; simp at s0 s1 s2 s3 s4 s6; go_simp; try rfl)
            simp only [Act.put, List.setIfInBounds_toArray, List.set_cons_zero, List.set_cons_succ]
            refine wpAnyN_done (by kernel_rfl) (NoPanic.normal ?_) _
            go_wp2
            refine bodyPost_ret (results_ctt rfl _ _ W.heap.size 27 _ (0, 0) _ rfl (put4_at (w := V2.drew) HRN3.out _ _ _ _) Try.underlying27 rfl (by kernel_rfl)) rfl ?_
            exact SOME.out V2.drew (.node yk yw yd yA yc yl) pn ⟨HBV.out.os, HBV.out.tape, HBV.out.output, HBV.out.size, HBV.out.block⟩ HT.out
        · have HIT := Aside0.mk (show hitB cl a (.node yk yw yd yA yc yl, pa, pn) = false by simp [hitB, e2])
          have e3 : (pa == a) = false := by simpa using e2
          go_wp2
          go_roundg (L.length - (i + 1))
          case measure => have := HKQ.out; omega
          case rel => exact ⟨i + 1, by go_num, by omega, ⟨rfl⟩, ⟨HXY.out⟩, ⟨find_take HXI.out HFI.out (HIT.out)⟩⟩
      · obtain rfl : i = L.length := by omega
        have HT := Aside0.mk (show rtakeF fi oe ne L l cl at_ = none by have := HFI.out; rw [List.take_length] at this; rw [HTE.out, this])
        have hrn := (HBI.out.block _ (blk_lt HRX.out)).trans HRX.out
        have p0 := blk_cell hrn 0
        have p1 := blk_cell hrn 1
        have p2 := blk_cell hrn 2
        have p3 := blk_cell hrn 3
        have f0 := blk_frozen hrn 0
        have f1 := blk_frozen hrn 1
        have f2 := blk_frozen hrn 2
        have f3 := blk_frozen hrn 3
        have lX := blk_lt hrn
        simp at p0 p1 p2 p3
        have HRN2 := Aside0.mk hrn
        clear hrn
        go_wp2
        refine bodyPost_ret (results_ctt rfl _ _ W.heap.size 27 _ (0, 0) _ rfl (put4_at HRN2.out _ _ _ _) Try.underlying27 rfl (by kernel_rfl)) rfl ?_
        exact NONE.out _ HBI.out HT.out
  · obtain ⟨a, ha⟩ : ∃ a, a = at_ := ⟨_, rfl⟩
    have HTE := Aside0.mk (show rtakeF fi oe ne L l cl at_ = match L.find? (hitB cl a) with | none => none | some x => if at_ < fi ∧ fi ≤ (bh l (x.2.1 + x.2.2).toNat : Int) then none else some (x.1, x.2.2) by unfold rtakeF; rw [if_neg (by omega), if_neg h2, ha])
    have hdf : decide (at_ < fi) = true := decide_eq_true (by omega)
    have HNF := Aside0.mk (show at_ < fi by omega)
    go_upto_region 7 with (fail)
    obtain rfl := ha
    obtain ⟨Z, hZ⟩ : ∃ V : World, V = X := ⟨_, rfl⟩
    have HBZ := Aside0.mk (show Below X.heap.size X Z by rw [hZ]; exact ⟨rfl, rfl, rfl, Nat.le_refl _, fun _ _ => rfl⟩)
    rw [← hZ]
    clear hZ c0 c1 c2 c3 c4 lg p0 p1 p2 p3 f0 f1 f2 f3 lX
    have HX0 := Aside0.mk (show ∀ w', Below X.heap.size X w' → RN w0 w' n0 g (.slice Av L.length cv) fi oe ne L Al cp l ∧ Below w0.heap.size w0 w' from fun w' h => ⟨HC.out.below h, below_step HW0.out h⟩)
    go_loopg [10] L.length (fun kq v10 w' => ∃ (i : Nat), v10 = .int .i64 i ∧ i ≤ L.length ∧ Aside0 (kq = L.length - i) ∧ Aside0 (Below X.heap.size X w') ∧ Aside0 ((L.take i).find? (hitB cl a) = none))
    case atStart => exact ⟨0, rfl, Nat.zero_le _, ⟨rfl⟩, HBZ, ⟨by simp⟩⟩
    case round =>
      obtain ⟨i, rfl, hi, HKQ, HBI, HFI⟩ := hrel
      obtain ⟨HRN, HWN⟩ : Aside0 (RN w0 wr n0 g (.slice Av L.length cv) fi oe ne L Al cp l) ∧ Aside0 (Below w0.heap.size w0 wr) := ⟨⟨(HX0.out wr HBI.out).1⟩, ⟨(HX0.out wr HBI.out).2⟩⟩
      have c0 := blk_cell HRN.out.cur 0
      have c1 := blk_cell HRN.out.cur 1
      have c2 := blk_cell HRN.out.cur 2
      have c3 := blk_cell HRN.out.cur 3
      have c4 := blk_cell HRN.out.cur 4
      have lg := blk_lt HRN.out.cur
      simp at c0 c1 c2 c3 c4
      by_cases hlt : i < L.length
      · obtain ⟨x, hxe⟩ : ∃ x, x = L[i] := ⟨_, rfl⟩
        have hxi : L[i]? = some x := by rw [hxe]; exact List.getElem?_eq_getElem hlt
        obtain ⟨ada, e0, q0, qq⟩ := part_at (Kd.R_reads' HRN.out.row).2.2 i hlt x hxi
        subst e0
        obtain ⟨hxT, hx0, hx1, hx2⟩ := HLL.out x (by rw [hxe]; exact List.getElem_mem hlt)
        clear hxe
        obtain ⟨⟨yk, yw, yd, yA, yc, yl⟩, pa, pn⟩ := x
        simp only [AT.k, AT.w, AT.wd, AT.A, AT.c, AT.kids] at q0 hx0 hx1 hx2 hxT
        have q1 := qq 1 _ (by decide) rfl
        have q2 := qq 2 _ (by decide) rfl
        have q3 := qq 3 _ (by decide) rfl
        have q4 := qq 4 _ (by decide) rfl
        have q5 := qq 5 _ (by decide) rfl
        simp only [AT.k, AT.w, AT.wd, AT.A, AT.c, AT.kids] at q1 q2 q3 q4 q5
        have HXI := Aside0.mk hxi
        have HXT := Aside0.mk hxT
        clear hxi hxT qq
        go_upto_region 10 with (fail)
        obtain ⟨Y, hY⟩ : ∃ V : World, V = wr.alloc (.cells #[.int .u8 yk, .int .u8 yw, .int .i64 yd, .slice yA yl.length yc, .int .i64 pa, .int .i64 pn] 90) := ⟨_, rfl⟩
        change Code.wp Try.prog _ _ _ (wr.alloc (.cells #[.int .u8 yk, .int .u8 yw, .int .i64 yd, .slice yA yl.length yc, .int .i64 pa, .int .i64 pn] 90))
        have HBY := Aside0.mk (show Below wr.heap.size wr Y by rw [hY]; exact below_alloc (Below.refl _ _) _)
        have hpy : Y.heap[wr.heap.size]? = some (.cells #[.int .u8 yk, .int .u8 yw, .int .i64 yd, .slice yA yl.length yc, .int .i64 pa, .int .i64 pn] 90 (0, 0)) := by rw [hY]; exact heap_alloc_new _ _
        rw [← hY]
        clear hY c0 c1 c2 c3 c4 lg q0 q1 q2 q3 q4 q5
        have HPY := Aside0.mk hpy
        have HXY := Aside0.mk (below_step HBI.out (by have := HBY.out; exact this))
        have y0 := blk_cell hpy 0
        have y1 := blk_cell hpy 1
        have y2 := blk_cell hpy 2
        have y3 := blk_cell hpy 3
        have y4 := blk_cell hpy 4
        have y5 := blk_cell hpy 5
        have lY := blk_lt hpy
        simp at y0 y1 y2 y3 y4 y5
        clear hpy
        by_cases e1 : pn = 0
        · have HIT := Aside0.mk (show hitB cl a (.node yk yw yd yA yc yl, pa, pn) = false by simp [hitB, e1])
          go_wp2
          go_roundg (L.length - (i + 1))
          case measure => have := HKQ.out; omega
          case rel => exact ⟨i + 1, by go_num, by omega, ⟨rfl⟩, ⟨HXY.out⟩, ⟨find_take HXI.out HFI.out (HIT.out)⟩⟩
        by_cases e2 : pa = a
        · subst e2
          have hCk := C_of_AT _ _ (Nat.lt_succ_self _) w0 HXT.out
          simp only [AT.A, AT.kids] at hCk
          have hkc : yl.length ≤ yc := by have := HXT.out; simp only [AtT] at this; exact this.1
          have HWY := Aside0.mk (below_step HWN.out (by have := HBY.out; exact this))
          have hel := eraseL_length yl
          have hcall := glossatorref17_of.calls 1 yk yw yd yA yc (eraseL yl) cl (decide (cl ∈ clsN yk)) Y (by rw [hel]; exact Kd.C_below hCk HWY.out) (by rw [hel]; exact hkc) (of_f yk yw yd (eraseL yl) cl)
          rw [hel] at hcall
          clear hCk hkc hel
          obtain ⟨ob, hob⟩ : ∃ ob, ob = decide (cl ∈ clsN yk) := ⟨_, rfl⟩
          rw [← hob] at hcall
          have HOB := Aside0.mk hob
          clear hob
          cases ob with
          | false =>
            have HIT := Aside0.mk (show hitB cl pa (.node yk yw yd yA yc yl, pa, pn) = false by have h : ¬ cl ∈ clsN yk := of_decide_eq_false HOB.out.symm; simp [hitB, AT.k, h])
            go_wp2_with (go_at_call 42; refine hcall.mono ?_; rintro e w5 ⟨rfl, hb5⟩; have HB5 := Aside0.mk hb5; clear hb5 hcall)
            go_roundg (L.length - (i + 1))
            case measure => have := HKQ.out; omega
            case rel => exact ⟨i + 1, by go_num, by omega, ⟨rfl⟩, ⟨below_step HXY.out HB5.out⟩, ⟨find_take HXI.out HFI.out (HIT.out)⟩⟩
          | true =>
            have HIT := Aside0.mk (show hitB cl pa (.node yk yw yd yA yc yl, pa, pn) = true by have h : cl ∈ clsN yk := of_decide_eq_true HOB.out.symm; simp [hitB, AT.k, h, e1])
            have HTH := Aside0.mk (show rtakeF fi oe ne L l cl pa = if pa < fi ∧ fi ≤ (bh l (pa + pn).toNat : Int) then none else some (.node yk yw yd yA yc yl, pn) by rw [HTE.out, find_hit HXI.out HFI.out HIT.out])
            go_upto_region 11 with (go_at_call 42; refine hcall.mono ?_; rintro e w5 ⟨rfl, hb5⟩; have HB5 := Aside0.mk hb5; clear hb5 hcall)
            have hpv := blk_below HPY.out HB5.out
            have HX5 := Aside0.mk (below_step HXY.out HB5.out)
            have HRN5 := Aside0.mk (HX0.out w5 HX5.out).1
            clear y0 y1 y2 y3 y4 y5 lY
            have y0 := blk_cell hpv 0
            have y1 := blk_cell hpv 1
            have y2 := blk_cell hpv 2
            have y3 := blk_cell hpv 3
            have y4 := blk_cell hpv 4
            have y5 := blk_cell hpv 5
            have lY := blk_lt hpv
            simp at y0 y1 y2 y3 y4 y5
            have c0 := blk_cell HRN5.out.cur 0
            have c1 := blk_cell HRN5.out.cur 1
            have c2 := blk_cell HRN5.out.cur 2
            have c3 := blk_cell HRN5.out.cur 3
            have c4 := blk_cell HRN5.out.cur 4
            have lg := blk_lt HRN5.out.cur
            simp at c0 c1 c2 c3 c4
            have HPV := Aside0.mk hpv
            clear hpv
            obtain ⟨kn, hkn⟩ := next_bh l HKK.out hl (pa + pn).toNat (by omega)
            have hnx := hkn kn (Nat.le_refl _)
            rw [Int.toNat_of_nonneg (show 0 ≤ pa + pn by omega)] at hnx
            obtain ⟨nb, hnb⟩ : ∃ nb, nb = (bh l (pa + pn).toNat : Int) := ⟨_, rfl⟩
            rw [← hnb] at hnx HTH
            have HNX := Aside0.mk hnx
            have hwp : IntKind.i64.wrap (pa + pn) = pa + pn := IntWalk.i64_in _ ⟨by omega, by omega⟩
            clear hnb hkn hnx
            by_cases h5 : fi ≤ nb
            · have hd5 : decide (fi ≤ nb) = true := decide_eq_true h5
              have HT := Aside0.mk (show rtakeF fi oe ne L l cl pa = none by rw [HTH.out, if_pos ⟨HNF.out, h5⟩])
              go_wp2
              go_quiet ((refine Calls.quiet_of (v := .int .i64 nb) (Calls.mono (glossatorref12_Next.calls kn Al cp l (pa + pn) nb _ ?_ HCP.out HNX.out) ?_); (exact Kd.C_below HRN5.out.toks ⟨rfl, rfl, rfl, Nat.le_refl _, fun _ _ => rfl⟩); (exact fun e w' h => ⟨h.1, h.2.out⟩)))
              have HBN := Aside0.mk (show Below X.heap.size X (w5.drewN nq) from ⟨HX5.out.os, HX5.out.tape, HX5.out.output, HX5.out.size, HX5.out.block⟩)
              have hrn := (HBN.out.block _ (blk_lt HRX.out)).trans HRX.out
              have p0 := blk_cell hrn 0
              have p1 := blk_cell hrn 1
              have p2 := blk_cell hrn 2
              have p3 := blk_cell hrn 3
              have f0 := blk_frozen hrn 0
              have f1 := blk_frozen hrn 1
              have f2 := blk_frozen hrn 2
              have f3 := blk_frozen hrn 3
              have lX := blk_lt hrn
              simp at p0 p1 p2 p3
              have HRN3 := Aside0.mk hrn
              clear hrn
              go_wp2
              refine bodyPost_ret (results_ctt rfl _ _ W.heap.size 27 _ (0, 0) _ rfl (put4_at HRN3.out _ _ _ _) Try.underlying27 rfl (by kernel_rfl)) rfl ?_
              exact NONE.out _ HBN.out HT.out
            · have hd5 : decide (fi ≤ nb) = false := decide_eq_false h5
              have HT := Aside0.mk (show rtakeF fi oe ne L l cl pa = some (.node yk yw yd yA yc yl, pn) by rw [HTH.out, if_neg (fun h => h5 h.2)])
              go_wp2
              go_quiet ((refine Calls.quiet_of (v := .int .i64 nb) (Calls.mono (glossatorref12_Next.calls kn Al cp l (pa + pn) nb _ ?_ HCP.out HNX.out) ?_); (exact Kd.C_below HRN5.out.toks ⟨rfl, rfl, rfl, Nat.le_refl _, fun _ _ => rfl⟩); (exact fun e w' h => ⟨h.1, h.2.out⟩)))
              have HBN := Aside0.mk (show Below X.heap.size X (w5.drewN nq) from ⟨HX5.out.os, HX5.out.tape, HX5.out.output, HX5.out.size, HX5.out.block⟩)
              go_upto_region 13 with (fail)
              obtain ⟨V2, hV2⟩ : ∃ V : World, V = w5.drewN nq := ⟨_, rfl⟩
              have HBV := Aside0.mk (show Below X.heap.size X V2 by rw [hV2]; exact ⟨HX5.out.os, HX5.out.tape, HX5.out.output, HX5.out.size, HX5.out.block⟩)
              have HPN := Aside0.mk (show V2.heap[wr.heap.size]? = some (.cells #[.int .u8 yk, .int .u8 yw, .int .i64 yd, .slice yA yl.length yc, .int .i64 pa, .int .i64 pn] 90 (0, 0)) by rw [hV2]; exact HPV.out)
              change Code.wp Try.prog _ _ _ (w5.drewN nq)
              rw [← hV2]
              clear hV2 y0 y1 y2 y3 y4 y5 lY c0 c1 c2 c3 c4 lg
              have hrn := (HBV.out.block _ (blk_lt HRX.out)).trans HRX.out
              have p0 := blk_cell hrn 0
              have p1 := blk_cell hrn 1
              have p2 := blk_cell hrn 2
              have p3 := blk_cell hrn 3
              have f0 := blk_frozen hrn 0
              have f1 := blk_frozen hrn 1
              have f2 := blk_frozen hrn 2
              have f3 := blk_frozen hrn 3
              have lX := blk_lt hrn
              simp at p0 p1 p2 p3
              have HRN3 := Aside0.mk hrn
              clear hrn
              have HZW := Aside0.mk (show wr.heap.size ≠ W.heap.size by have := HBI.out.size; have := blk_lt HRX.out; omega)
              refine wp_region_noPanic (plain_need [0, 1, 2, 3, 4, 5, 6] (fun W' => W'.heap[wr.heap.size]? = some (.cells #[.int .u8 yk, .int .u8 yw, .int .i64 yd, .slice yA yl.length yc, .int .i64 pa, .int .i64 pn] 90 (0, 0))) mixE ?_)
              refine wpAnyN_take (i := 0) (v := ?_) rfl (by kernel_rfl) (by kernel_rfl) (by kernel_rfl) (by kernel_rfl) (fun _ _ _ h => h) (.inl ⟨by rfl, ?_⟩) HPN.out ?_
              rotate_left
              · (intro W' hW'; have s0 := blk_cell hW' 0; have s1 := blk_cell hW' 1; have s2 := blk_cell hW' 2; have s3 := blk_cell hW' 3; have s4 := blk_cell hW' 4; have s6 := blk_cell hW' 5; have s5 := blk_lt hW'; simp at s0 s1 s2 s3 s4 s6; go_simp; try rfl)
              simp only [Act.put, List.setIfInBounds_toArray, List.set_cons_zero, List.set_cons_succ]
              refine wpAnyN_take (i := 1) (v := ?_) rfl (by kernel_rfl) (by kernel_rfl) (by kernel_rfl) (by kernel_rfl) (fun _ _ _ h => h) (.inl ⟨by rfl, ?_⟩) HPN.out ?_
              rotate_left
              · (intro W' hW'; have s0 := blk_cell hW' 0; have s1 := blk_cell hW' 1; have s2 := blk_cell hW' 2; have s3 := blk_cell hW' 3; have s4 := blk_cell hW' 4; have s6 := blk_cell hW' 5; have s5 := blk_lt hW'; simp at s0 s1 s2 s3 s4 s6; go_simp; try rfl)
              simp only [Act.put, List.setIfInBounds_toArray, List.set_cons_zero, List.set_cons_succ]
              refine wpAnyN_take (i := 2) (v := ?_) rfl (by kernel_rfl) (by kernel_rfl) (by kernel_rfl) (by kernel_rfl) (fun _ _ _ h => h) (.inl ⟨by rfl, ?_⟩) HPN.out ?_
              rotate_left
              · (intro W' hW'; have s0 := blk_cell hW' 0; have s1 := blk_cell hW' 1; have s2 := blk_cell hW' 2; have s3 := blk_cell hW' 3; have s4 := blk_cell hW' 4; have s6 := blk_cell hW' 5; have s5 := blk_lt hW'; simp at s0 s1 s2 s3 s4 s6; go_simp; try rfl)
              simp only [Act.put, List.setIfInBounds_toArray, List.set_cons_zero, List.set_cons_succ]
              refine wpAnyN_take (i := 3) (v := ?_) rfl (by kernel_rfl) (by kernel_rfl) (by kernel_rfl) (by kernel_rfl) (fun _ _ _ h => h) (.inl ⟨by rfl, ?_⟩) HPN.out ?_
              rotate_left
              · (intro W' hW'; have s0 := blk_cell hW' 0; have s1 := blk_cell hW' 1; have s2 := blk_cell hW' 2; have s3 := blk_cell hW' 3; have s4 := blk_cell hW' 4; have s6 := blk_cell hW' 5; have s5 := blk_lt hW'; simp at s0 s1 s2 s3 s4 s6; go_simp; try rfl)
              simp only [Act.put, List.setIfInBounds_toArray, List.set_cons_zero, List.set_cons_succ]
              refine wpAnyN_one (i := 4) rfl (by kernel_rfl) (fun K hK => ?_)
              go_simp
              refine hK.out _ _ (fun _ => (put4_other HZW.out _ _ _ _).trans HPN.out) (fun _ => ?_)
              clear hK K
              refine wpAnyN_take (i := 5) (v := ?_) rfl (by kernel_rfl) (by kernel_rfl) (by kernel_rfl) (by kernel_rfl) (fun _ _ _ h => h) (.inl ⟨by rfl, ?_⟩) ((put4_other HZW.out _ _ _ _).trans HPN.out) ?_
              rotate_left
              · (intro W' hW'; have s0 := blk_cell hW' 0; have s1 := blk_cell hW' 1; have s2 := blk_cell hW' 2; have s3 := blk_cell hW' 3; have s4 := blk_cell hW' 4; have s6 := blk_cell hW' 5; have s5 := blk_lt hW'; simp at s0 s1 s2 s3 s4 s6; go_simp; try rfl)
              simp only [Act.put, List.setIfInBounds_toArray, List.set_cons_zero, List.set_cons_succ]
              refine wpAnyN_take (i := 6) (v := ?_) rfl (by kernel_rfl) (by kernel_rfl) (by kernel_rfl) (by kernel_rfl) (fun _ _ _ h => h) (.inl ⟨by rfl, ?_⟩) ((put4_other HZW.out _ _ _ _).trans HPN.out) ?_
              rotate_left
              · (intro W' hW'; have s0 := blk_cell hW' 0; have s1 := blk_cell hW' 1; have s2 := blk_cell hW' 2; have s3 := blk_cell hW' 3; have s4 := blk_cell hW' 4; have s6 := blk_cell hW' 5; have s5 := blk_lt hW'; simp at s0 s1 s2 s3 s4 s6; go_simp; try rfl)
              simp only [Act.put, List.setIfInBounds_toArray, List.set_cons_zero, List.set_cons_succ]
              refine wpAnyN_done (by kernel_rfl) (NoPanic.normal ?_) _
              go_wp2
              refine bodyPost_ret (results_ctt rfl _ _ W.heap.size 27 _ (0, 0) _ rfl (put4_at (w := V2.drew) HRN3.out _ _ _ _) Try.underlying27 rfl (by kernel_rfl)) rfl ?_
              exact SOME.out V2.drew (.node yk yw yd yA yc yl) pn ⟨HBV.out.os, HBV.out.tape, HBV.out.output, HBV.out.size, HBV.out.block⟩ HT.out
        · have HIT := Aside0.mk (show hitB cl a (.node yk yw yd yA yc yl, pa, pn) = false by simp [hitB, e2])
          have e3 : (pa == a) = false := by simpa using e2
          go_wp2
          go_roundg (L.length - (i + 1))
          case measure => have := HKQ.out; omega
          case rel => exact ⟨i + 1, by go_num, by omega, ⟨rfl⟩, ⟨HXY.out⟩, ⟨find_take HXI.out HFI.out (HIT.out)⟩⟩
      · obtain rfl : i = L.length := by omega
        have HT := Aside0.mk (show rtakeF fi oe ne L l cl a = none by have := HFI.out; rw [List.take_length] at this; rw [HTE.out, this])
        have hrn := (HBI.out.block _ (blk_lt HRX.out)).trans HRX.out
        have p0 := blk_cell hrn 0
        have p1 := blk_cell hrn 1
        have p2 := blk_cell hrn 2
        have p3 := blk_cell hrn 3
        have f0 := blk_frozen hrn 0
        have f1 := blk_frozen hrn 1
        have f2 := blk_frozen hrn 2
        have f3 := blk_frozen hrn 3
        have lX := blk_lt hrn
        simp at p0 p1 p2 p3
        have HRN2 := Aside0.mk hrn
        clear hrn
        go_wp2
        refine bodyPost_ret (results_ctt rfl _ _ W.heap.size 27 _ (0, 0) _ rfl (put4_at HRN2.out _ _ _ _) Try.underlying27 rfl (by kernel_rfl)) rfl ?_
        exact NONE.out _ HBI.out HT.out
end Go.Proofs.Ytghbfjmmjfklfaa.H
