/- cursor.New. -/
import Derived.Test.YtghbfjmmjfklfaaQHCursorAdd
import Derived.Test.YtghbfjmmjfklfaaQHLexCounts
import Derived.Test.YtghbfjmmjfklfaaQPureTreeWalks
import Derived.Test.YtghbfjmmjfklfaaQHxglossatorref12Counts
set_option linter.unusedVariables false
set_option linter.unusedSimpArgs false
namespace Go.Proofs.Ytghbfjmmjfklfaa.H
open Go.RowKit Go.Proofs.YtghbfjmmjfklfaaW.PrintWords Go.Proofs.YtghbfjmmjfklfaaW.PrintLast Go.Proofs.YtghbfjmmjfklfaaW.PrintMore
theorem infoInt : (Try.prog.info? 3).map (fun i => (i.zero, i.size, i.bytes)) = some (some (.int .i64 0), 1, 8) := by kernel_rfl
def errN (fi oe ne len : Int) (fit : Bool) : Int := if fi < 0 ∨ oe < fi ∨ ne < fi ∨ len < oe ∨ 1048576 < ne then 2 else if fit then 0 else 150
def bhF (l : List S39) : Nat → Nat → Nat
  | 0, i => i
  | n + 1, i => if i < l.length then (if countsB (rd_T39 l i).f0 then i else bhF l n (i + 1)) else i
def bh (l : List S39) (i : Nat) : Nat := bhF l (l.length - i) i
theorem bh_end (l : List S39) : bh l l.length = l.length := by unfold bh; rw [Nat.sub_self]; rfl
theorem bh_step (l : List S39) (i : Nat) (h : i < l.length) : bh l i = if countsB (rd_T39 l i).f0 then i else bh l (i + 1) := by
  unfold bh
  obtain ⟨k, hk⟩ : ∃ k, l.length - i = k + 1 := ⟨l.length - i - 1, by omega⟩
  rw [hk, bhF, if_pos h, show l.length - (i + 1) = k by omega]
structure CN (w0 w : World) (n0 g b r cap : Nat) (fi oe ne tk : Int) (nm : Nat) (M : PMap) (xs : List Int) : Prop where
  low : Below n0 w0 w
  cur : w.heap[g]? = some (curO fi oe ne b (some ⟨r, 0, none⟩) xs.length cap tk)
  map : HoldsP w b nm M
  row : Kd.R (Kd.int .i64) 3 w n0 (fun q => n0 ≤ q ∧ q ≠ b ∧ q ≠ g) (.slice (some ⟨r, 0, none⟩) xs.length cap) xs
  n1 : n0 ≤ g ∧ n0 ≤ b ∧ n0 ≤ r
  n2 : g ≠ b ∧ g ≠ r ∧ b ≠ r
theorem CN.put {w0 w : World} {n0 g b r cap : Nat} {fi oe ne tk : Int} {nm : Nat} {M : PMap} {xs : List Int} (h : CN w0 w n0 g b r cap fi oe ne tk nm M xs) (i : Nat) (x : Int) : CN w0 (w.setCell ⟨r, i, none⟩ (.int .i64 x)) n0 g b r cap fi oe ne tk nm M (xs.set i x) := by
  have hr := Kd.R_putn h.row (i : Int) x
  rw [Int.toNat_natCast] at hr
  have hk : ∀ q, q ≠ r → (w.setCell ⟨r, i, none⟩ (.int .i64 x)).heap[q]? = w.heap[q]? := fun q hq => Below.heap_setCell _ _ _ _ hq
  refine ⟨h.low.setCell h.n1.2.2 _, ?_, h.map.keep (hk b h.n2.2.2), ?_, h.n1, h.n2⟩
  · rw [hk g h.n2.2.1, List.length_set]; exact h.cur
  · rw [List.length_set]; exact hr
theorem CN.cells {w0 w : World} {n0 g b r cap : Nat} {fi oe ne tk : Int} {nm : Nat} {M : PMap} {xs : List Int} (h : CN w0 w n0 g b r cap fi oe ne tk nm M xs) : w.cell? ⟨g, 0, none⟩ = some (.int .i64 fi) ∧ w.cell? ⟨g, 1, none⟩ = some (.int .i64 oe) ∧ w.cell? ⟨g, 2, none⟩ = some (.int .i64 ne) ∧ w.cell? ⟨g, 3, none⟩ = some (.map (some b)) ∧ w.cell? ⟨g, 4, none⟩ = some (.slice (some ⟨r, 0, none⟩) xs.length cap) ∧ w.cell? ⟨g, 5, none⟩ = some (.int .i64 tk) := by
  have h0 := blk_cell h.cur 0
  have h1 := blk_cell h.cur 1
  have h2 := blk_cell h.cur 2
  have h3 := blk_cell h.cur 3
  have h4 := blk_cell h.cur 4
  have h5 := blk_cell h.cur 5
  simp at h0 h1 h2 h3 h4 h5
  exact ⟨h0, h1, h2, h3, h4, h5⟩
theorem CN.at_ {w0 w : World} {n0 g b r cap : Nat} {fi oe ne tk : Int} {nm : Nat} {M : PMap} {xs : List Int} (h : CN w0 w n0 g b r cap fi oe ne tk nm M xs) (i : Nat) (hi : i < xs.length) : w.cell? ⟨r, i, none⟩ = some (.int .i64 (xs.getD i 0)) ∧ w.frozen? ⟨r, i, none⟩ = false := by
  have := Kd.R_celln 0 h.row (i : Int) (by omega) (by omega)
  have h2 : rdOf 0 xs (i : Int) = xs.getD i 0 := by unfold rdOf; rw [Int.toNat_natCast]
  rw [h2] at this
  simpa only [Int.toNat_natCast] using this
theorem CN.below {w0 w w' : World} {n0 g b r cap : Nat} {fi oe ne tk : Int} {nm : Nat} {M : PMap} {xs : List Int} (h : CN w0 w n0 g b r cap fi oe ne tk nm M xs) (hb : Below w.heap.size w w') : CN w0 w' n0 g b r cap fi oe ne tk nm M xs :=
  ⟨h.low.grown (grown_of_below hb none) (Nat.le_of_lt (Nat.lt_of_le_of_lt h.n1.1 (blk_lt h.cur))) (fun k hk => by cases hk), blk_below h.cur hb, h.map.below hb, Kd.R_below h.row hb, h.n1, h.n2⟩
def NewPost (W : World) (T : AT) (l : List S39) (fi oe ne : Int) (fit : Bool) (e : Ending) (W' : World) : Prop := ∃ er, er = errN fi oe ne l.length fit ∧ Below W.heap.size W W' ∧
      ((er ≠ 0 ∧ e = .returned (.tuple #[.pointer none, .int .i64 er])) ∨ (er = 0 ∧ ∃ g b r cap nm xs, e = .returned (.tuple #[.pointer (some ⟨g, 0, none⟩), .int .i64 0]) ∧ CN W W' W.heap.size g b r cap fi oe ne 0 nm (addT T 0 fun _ => none) xs ∧ nm ≤ 4 * sizeT T ∧ xs.length = l.length + 1 ∧ ∀ j, j ≤ l.length → xs.getD j 0 = (bh l j : Int)))
theorem new_bad {W W' : World} {T : AT} {l : List S39} {fi oe ne : Int} {fit : Bool} {e : Ending} (er : Int) (h : errN fi oe ne l.length fit = er) (hb : Below W.heap.size W W') (hne : er ≠ 0) (he : e = .returned (.tuple #[.pointer none, .int .i64 er])) : NewPost W T l fi oe ne fit e W' := ⟨er, h.symm, hb, .inl ⟨hne, he⟩⟩
set_option maxHeartbeats 8000000 in
set_option maxRecDepth 100000 in
theorem cnew_calls (W : World) (T : AT) (hT : AtT W T) (hts : tsize T.erase ≤ 1000000) (hsz : sizeT T ≤ 1000000) (Al : Option Addr) (cl : Nat) (l : List S39) (hr : Kd.C k39 W Al l.length l) (hc : l.length ≤ cl) (hl : l.length ≤ 1000000) (fi oe ne : Int) (fit : Bool) (hfit : fitsT T.erase l = fit) :
    Calls Try.prog 12 #[T.val, .slice Al l.length cl, .int .i64 fi, .int .i64 oe, .int .i64 ne] W fun e W' => NewPost W T l fi oe ne fit e W' := by
  obtain ⟨k, w1, wd, A, c, kids⟩ := T
  simp only [AT.val, AT.k, AT.w, AT.wd, AT.A, AT.c, AT.kids]
  have HT := Aside0.mk hT
  have HTS := Aside0.mk hts
  have HSZ := Aside0.mk hsz
  have HR := Aside0.mk hr
  have HC := Aside0.mk hc
  have HF := Aside0.mk hfit
  obtain ⟨X, hX⟩ : ∃ V, V = W.alloc (.cells #[.int .u8 k, .int .u8 w1, .int .i64 wd, .slice A kids.length c] 27) := ⟨_, rfl⟩
  have hbX : Below W.heap.size W X := by rw [hX]; exact below_alloc (Below.refl _ _) _
  have HBX := Aside0.mk hbX
  have HK := Aside0.mk (show X.heap[W.heap.size]? = some (.cells #[.int .u8 k, .int .u8 w1, .int .i64 wd, .slice A kids.length c] 27 (0, 0)) by rw [hX]; exact heap_alloc_new _ _)
  have hu := Try.underlying27
  have huc := Try.underlying77
  have hut := Try.underlying39
  have hmm := @run_makeMap Try.prog
  have hx1 := wrap_id (x := (l.length : Int) + 1) (by omega) (by omega)
  clear hT hts hsz hr hc hfit hbX
  go_enter Try.func12, Try.ntmps12
  go_upto_region 1 with (fail)
  change Code.wp Try.prog _ _ _ (W.alloc (.cells #[.int .u8 k, .int .u8 w1, .int .i64 wd, .slice A kids.length c] 27))
  rw [← hX]
  clear hX
  by_cases h1 : fi < 0
  · go_wp2
    refine bodyPost_ret (results_tmp2 rfl _ _ _) rfl ?_
    exact new_bad 2 (by unfold errN; rw [if_pos (.inl h1)]) HBX.out (by decide) rfl
  by_cases h2 : oe < fi
  · go_wp2
    refine bodyPost_ret (results_tmp2 rfl _ _ _) rfl ?_
    exact new_bad 2 (by unfold errN; rw [if_pos (.inr (.inl h2))]) HBX.out (by decide) rfl
  by_cases h3 : ne < fi
  · go_wp2
    refine bodyPost_ret (results_tmp2 rfl _ _ _) rfl ?_
    exact new_bad 2 (by unfold errN; rw [if_pos (.inr (.inr (.inl h3)))]) HBX.out (by decide) rfl
  by_cases h4 : (l.length : Int) < oe
  · go_wp2
    refine bodyPost_ret (results_tmp2 rfl _ _ _) rfl ?_
    exact new_bad 2 (by unfold errN; rw [if_pos (.inr (.inr (.inr (.inl h4))))]) HBX.out (by decide) rfl
  by_cases h5 : 1048576 < ne
  · go_wp2
    refine bodyPost_ret (results_tmp2 rfl _ _ _) rfl ?_
    exact new_bad 2 (by unfold errN; rw [if_pos (.inr (.inr (.inr (.inr h5))))]) HBX.out (by decide) rfl
  have HER := Aside0.mk (show errN fi oe ne l.length fit = if fit then 0 else 150 by unfold errN; rw [if_neg (by omega)])
  have p0 := blk_cell HK.out 0
  have p1 := blk_cell HK.out 1
  have p2 := blk_cell HK.out 2
  have p3 := blk_cell HK.out 3
  have lX := blk_lt HK.out
  simp at p0 p1 p2 p3
  obtain ⟨kf, hkf⟩ := fits_ev (AT.node k w1 wd A c kids).erase l (by have := HTS.out; omega) (by omega)
  have hfits := hkf kf (Nat.le_refl _)
  rw [HF.out] at hfits
  simp only [AT.erase] at hfits
  have HFITS := Aside0.mk hfits
  clear hfits hkf
  have hCk := C_of_AT _ _ (Nat.lt_succ_self _) W HT.out
  simp only [AT.A, AT.kids] at hCk
  have hkc : kids.length ≤ c := by have := HT.out; simp only [AtT] at this; exact this.1
  have HCK := Aside0.mk hCk
  have HKC := Aside0.mk hkc
  clear hCk hkc
  go_upto_region 3 with (fail)
  have hel := eraseL_length kids
  have hcall := tree_Fits.calls kf k w1 wd A c (eraseL kids) Al cl l fit X (by rw [hel]; exact Kd.C_below HCK.out HBX.out) (by rw [hel]; exact HKC.out) (Kd.C_below HR.out HBX.out) HC.out HFITS.out
  rw [hel] at hcall
  cases fit with
  | false =>
    go_wp2_with (go_at_call 37; refine hcall.mono ?_; rintro e w3 ⟨rfl, hb3⟩; have HB3 := Aside0.mk hb3; clear hb3 hcall)
    refine bodyPost_ret (results_tmp2 rfl _ _ _) rfl ?_
    exact new_bad 150 (by rw [HER.out]; rfl) (below_step HBX.out HB3.out) (by decide) rfl
  | true =>
    go_upto_region 5 with (go_at_call 37; refine hcall.mono ?_; rintro e w3 ⟨rfl, hb3⟩; have HB3 := Aside0.mk hb3; clear hb3 hcall)
    have HK3 := Aside0.mk (blk_below HK.out HB3.out)
    clear p0 p1 p2 p3 lX
    go_upto_region 6 with ((with_reducible refine gate_dst (N := 49) rfl ?_); refine Kd.R_make (Kd.int .i64) (w0 := w3) w3.heap.size 3 rfl (N := 49) rfl 75 (.tmp 48) (.tmp 48) rfl ((l.length : Int) + 1) ?hx ?hy Try.underlying75 (.int .i64 0) 8 infoInt rfl (by decide) (by decide) 0 (ok := fun q => w3.heap.size < q) (okp := fun _ => False) rfl (fun _ h => h.elim) (by simp) (by omega) (by omega) (below_alloc (Below.refl _ _) _) (by simp) ?_; (case hx => first | (go_simp; done) | (go_simp; rfl)); (case hy => first | (go_simp; done) | (go_simp; rfl)); intro v4 w4 hR4 hb4 hg4 hn4; obtain ⟨xs, hxs⟩ : ∃ xs, xs = List.replicate ((l.length : Int) + 1).toNat (0 : Int) := ⟨_, rfl⟩; rw [← hxs] at hR4; have hxl : xs.length = l.length + 1 := (by rw [hxs, List.length_replicate]; omega); obtain ⟨r, cap, rfl, _, _, _⟩ := Kd.R_form hR4 (by omega); have HXS := Aside0.mk hxs; have HXL := Aside0.mk hxl; clear hxs hxl; have HR4 := Aside0.mk hR4; have HB4 := Aside0.mk hb4; have HG4 := Aside0.mk hg4; have HN4 := Aside0.mk hn4; clear hR4 hb4 hg4 hn4)
    obtain ⟨g, hg⟩ : ∃ g, g = w4.heap.size := ⟨_, rfl⟩
    obtain ⟨b, hb⟩ : ∃ b, b = w3.heap.size := ⟨_, rfl⟩
    obtain ⟨Y, hY⟩ : ∃ V, V = w4.alloc (.cells #[.int .i64 fi, .int .i64 oe, .int .i64 ne, .map (some w3.heap.size), .slice (some ⟨r, 0, none⟩) xs.length cap, .int .i64 0] 77) := ⟨_, rfl⟩
    have HCN := Aside0.mk (show CN W Y W.heap.size g b r cap fi oe ne 0 0 (fun _ => none) xs by
      have e1 := below_step HBX.out HB3.out
      have e2 := HB4.out
      have e3 : Below w4.heap.size w4 Y := by rw [hY]; exact below_alloc (Below.refl _ _) _
      have s1 := e1.size
      have s4 := HG4.out.size
      have s3 : (w3.alloc (.map #[] 0)).heap.size = w3.heap.size + 1 := by simp
      have hr0 := (Kd.R_bound HR4.out).1 r (by rfl)
      have hm : HoldsP w4 b 0 (fun _ => none) := by rw [hb]; exact (HoldsP.start w3).keep (HG4.out.block _ (by omega) (fun e => by cases e))
      refine ⟨below_step (below_step e1 e2) e3, ?_, hm.below e3, ?_, ⟨by omega, by omega, by omega⟩, ⟨by omega, by omega, by omega⟩⟩
      · rw [hY, hg, hb]; exact heap_alloc_new _ _
      · exact Kd.R_below (Kd.R_lower (Kd.R_mono (Kd.R_bound HR4.out) (fun q hq => ⟨by omega, by omega, by omega⟩)) (by omega)) e3)
    change Code.wp Try.prog _ _ _ (w4.alloc (.cells #[.int .i64 fi, .int .i64 oe, .int .i64 ne, .map (some w3.heap.size), .slice (some ⟨r, 0, none⟩) xs.length cap, .int .i64 0] 77))
    rw [← hY, ← hg, ← hb]
    have HK4 := Aside0.mk (show Y.heap[W.heap.size]? = some (.cells #[.int .u8 k, .int .u8 w1, .int .i64 wd, .slice A kids.length c] 27 (0, 0)) from by
      have e3 : Below w4.heap.size w4 Y := by rw [hY]; exact below_alloc (Below.refl _ _) _
      exact blk_below HK3.out (below_step HB4.out e3))
    have HXG := Aside0.mk (show W.heap.size < g by have := blk_lt HK3.out; have := HG4.out.size; simp at this; omega)
    have HXR := Aside0.mk (show W.heap.size < r by have := blk_lt HK3.out; have := HCN.out.n1; have h9 := HR4.out.1 r rfl; omega)
    clear hY hg hb HB4 HG4 HN4 HR4
    obtain ⟨c0, c1, c2, c3, c4, c5⟩ := HCN.out.cells
    obtain ⟨q0, q1⟩ := HCN.out.at_ l.length (by have := HXL.out; omega)
    have lg := blk_lt HCN.out.cur
    have hxl := HXL.out
    go_upto_region 8 with (fail)
    have HC1 := Aside0.mk (HCN.out.put l.length (l.length : Int))
    have HKP : ∀ (w : World) (i : Nat) (v : Value), w.heap[W.heap.size]? = some (.cells #[.int .u8 k, .int .u8 w1, .int .i64 wd, .slice A kids.length c] 27 (0, 0)) → (w.setCell ⟨r, i, none⟩ v).heap[W.heap.size]? = some (.cells #[.int .u8 k, .int .u8 w1, .int .i64 wd, .slice A kids.length c] 27 (0, 0)) := fun w i v h => (Below.heap_setCell _ _ _ _ (show W.heap.size ≠ r by have := HXR.out; omega)).trans h
    have HKP := Aside0.mk HKP
    go_loopg [13] l.length (fun kq v13 w' => ∃ (i : Nat) (ys : List Int), v13 = .int .i64 ((i : Int) - 1) ∧ i ≤ l.length ∧ Aside0 (kq = i) ∧ Aside0 (CN W w' W.heap.size g b r cap fi oe ne 0 0 (fun _ => none) ys) ∧ Aside0 (ys.length = l.length + 1) ∧ Aside0 (∀ j, i ≤ j → j ≤ l.length → ys.getD j 0 = (bh l j : Int)) ∧ Aside0 (w'.heap[W.heap.size]? = some (.cells #[.int .u8 k, .int .u8 w1, .int .i64 wd, .slice A kids.length c] 27 (0, 0))))
    case atStart => exact ⟨l.length, xs.set l.length l.length, rfl, Nat.le_refl _, ⟨rfl⟩, HC1, ⟨by simp; exact hxl⟩, ⟨fun j h1 h2 => by obtain rfl : j = l.length := (by omega); rw [bh_end, List.getD_eq_getElem?_getD, List.getElem?_set_self (by omega)]; rfl⟩, ⟨HKP.out _ _ _ HK4.out⟩⟩
    case round =>
      clear hxl c0 c1 c2 c3 c4 c5 q0 q1
      obtain ⟨i, ys, rfl, hi, HKQ, HCI, HYL, HYS, HKI⟩ := hrel
      have hyl := HYL.out
      cases i with
      | zero =>
        have HCL := Aside0.mk HCI.out.low
        have p0 := blk_cell HKI.out 0
        have p1 := blk_cell HKI.out 1
        have p2 := blk_cell HKI.out 2
        have p3 := blk_cell HKI.out 3
        have lX := blk_lt HKI.out
        simp at p0 p1 p2 p3
        have hw0 : ((0 : Nat) : Int) - 1 = -1 := rfl
        rw [hw0]
        have hcall := cadd_calls W (SizeOf.sizeOf (AT.node k w1 wd A c kids) + 1) (AT.node k w1 wd A c kids) (Nat.lt_succ_self _) HT.out 0 g b 0 fi oe ne 0 (some ⟨r, 0, none⟩) ys.length cap (fun _ => none) wr HCL.out HCI.out.n1.2.1 HCI.out.n2.1 HCI.out.cur HCI.out.map (Int.le_refl _) (by have := HSZ.out; omega) (by have := HSZ.out; omega)
        simp only [AT.val, AT.k, AT.w, AT.wd, AT.A, AT.c, AT.kids] at hcall
        go_wp2_with (go_at_call 39; refine hcall.mono ?_; rintro e w5 ⟨rfl, n5, hn5, C5⟩; have C5 := Aside0.mk C5; have HN5 := Aside0.mk hn5; clear hn5 hcall)
        refine bodyPost_ret (results_tmp2 rfl _ _ _) rfl ?_
        have hlow : Below W.heap.size W w5 := C5.out.low HCL.out HCI.out.n1.2.1
        refine ⟨0, by rw [HER.out]; rfl, hlow, .inr ⟨rfl, g, b, r, cap, n5, ys, rfl, ⟨hlow, C5.out.cur, C5.out.map, ?_, HCI.out.n1, HCI.out.n2⟩, by have := HN5.out; omega, HYL.out, fun j hj => HYS.out j (Nat.zero_le _) hj⟩⟩
        exact Kd.R_grown HCI.out.row C5.out.gr (fun q hq e => hq.2.1 (Option.some.inj e))
      | succ p =>
        have hpi : ((p + 1 : Nat) : Int) - 1 = (p : Int) := by omega
        rw [hpi]
        obtain ⟨c0, c1, c2, c3, c4, c5⟩ := HCI.out.cells
        obtain ⟨q0, q1⟩ := HCI.out.at_ (p + 1) (by omega)
        obtain ⟨q2, q3⟩ := HCI.out.at_ p (by omega)
        have lg := blk_lt HCI.out.cur
        have hpa : 0 ≤ (p : Int) + 1 := by omega
        have hpb : (p : Int) + 1 < (l.length : Int) + 1 := by omega
        have hpc : (p : Int) < (l.length : Int) + 1 := by omega
        have hpt : ((p : Int) + 1).toNat = p + 1 := by omega
        have hpw : IntKind.i64.wrap ((p : Int) + 1) = (p : Int) + 1 := IntWalk.i64_in _ ⟨by omega, by omega⟩
        have hp1 : wrap64 ((p : Int) + 1) = (p : Int) + 1 := wrap_id (by omega) (by omega)
        obtain ⟨x, hx⟩ : ∃ x, x = ys.getD (p + 1) 0 := ⟨_, rfl⟩
        rw [← hx] at q0
        have HX := Aside0.mk (show x = (bh l (p + 1) : Int) by rw [hx]; exact HYS.out (p + 1) (Nat.le_refl _) hi)
        clear hx
        go_upto_region 10 with (fail)
        go_still_tail 14, mixE
        clear hpw hp1 hpa hpb hpc hpt
        go_upto_region 11 with (fail)
        obtain ⟨Z, hZ⟩ : ∃ V, V = (wr.setCell ⟨r, p, none⟩ (.int .i64 x)).drew := ⟨_, rfl⟩
        have HCZ := Aside0.mk (show CN W Z W.heap.size g b r cap fi oe ne 0 0 (fun _ => none) (ys.set p x) by rw [hZ]; exact (HCI.out.put p x).below (Below.refl _ _).drew)
        have HKZ := Aside0.mk (show Z.heap[W.heap.size]? = some (.cells #[.int .u8 k, .int .u8 w1, .int .i64 wd, .slice A kids.length c] 27 (0, 0)) by rw [hZ]; exact HKP.out wr p _ HKI.out)
        change Code.wp Try.prog _ _ _ ((wr.setCell ⟨r, p, none⟩ (.int .i64 x)).drew)
        rw [← hZ]
        clear hZ c0 c1 c2 c3 c4 c5 q0 q1 q2 q3 lg
        obtain ⟨adt, et, t0, t1, t2⟩ := at_T39 (Kd.C_below HR.out HCZ.out.low) (p : Int) (by omega) (by omega)
        subst et
        rw [Int.toNat_natCast] at t0
        clear t1 t2
        have HB := Aside0.mk (bh_step l p (by omega))
        cases hcb : countsB (rd_T39 l p).f0 with
        | false =>
          have HCB := Aside0.mk hcb
          have hcc : lex_Counts.f (rd_T39 l p).f0 = some false := by unfold lex_Counts.f; rw [hcb]
          have hcall := lex_Counts.calls _ _ Z hcc
          clear hcb hcc
          go_wp2_with (go_at_call 38; refine hcall.mono ?_; rintro e w5 ⟨rfl, hb5⟩; have HB5 := Aside0.mk hb5; clear hb5 hcall)
          go_roundg p
          case measure => have := HKQ.out; omega
          case rel => exact ⟨p, ys.set p x, rfl, by omega, ⟨rfl⟩, ⟨HCZ.out.below HB5.out⟩, ⟨by rw [List.length_set]; exact HYL.out⟩, ⟨fun j h1 h2 => by
            rcases Nat.lt_or_ge p j with h3 | h3
            · rw [List.getD_eq_getElem?_getD, List.getElem?_set_ne (by omega), ← List.getD_eq_getElem?_getD]; exact HYS.out j h3 h2
            · obtain rfl : j = p := by omega
              rw [List.getD_eq_getElem?_getD, List.getElem?_set_self (by have := HYL.out; omega), Option.getD_some, HX.out, HB.out, if_neg (by rw [HCB.out]; decide)]⟩, ⟨blk_below HKZ.out HB5.out⟩⟩
        | true =>
          have HCB := Aside0.mk hcb
          have hcc : lex_Counts.f (rd_T39 l p).f0 = some true := by unfold lex_Counts.f; rw [hcb]
          have hcall := lex_Counts.calls _ _ Z hcc
          clear hcb hcc
          go_upto_region 12 with (go_at_call 38; refine hcall.mono ?_; rintro e w5 ⟨rfl, hb5⟩; have HB5 := Aside0.mk hb5; clear hb5 hcall)
          have HC5 := Aside0.mk (HCZ.out.below HB5.out)
          obtain ⟨c0, c1, c2, c3, c4, c5⟩ := HC5.out.cells
          have hsl : (ys.set p x).length = ys.length := by simp
          rw [hsl] at c4
          obtain ⟨q2, q3⟩ := HC5.out.at_ p (by rw [hsl]; omega)
          have lg := blk_lt HC5.out.cur
          go_wp2
          go_roundg p
          case measure => have := HKQ.out; omega
          case rel => exact ⟨p, (ys.set p x).set p p, rfl, by omega, ⟨rfl⟩, ⟨HC5.out.put p p⟩, ⟨by rw [List.length_set, List.length_set]; exact HYL.out⟩, ⟨fun j h1 h2 => by
            rcases Nat.lt_or_ge p j with h3 | h3
            · rw [List.getD_eq_getElem?_getD, List.getElem?_set_ne (by omega), List.getElem?_set_ne (by omega), ← List.getD_eq_getElem?_getD]; exact HYS.out j h3 h2
            · obtain rfl : j = p := by omega
              rw [List.getD_eq_getElem?_getD, List.getElem?_set_self (by rw [List.length_set]; have := HYL.out; omega), Option.getD_some, HB.out, if_pos HCB.out]⟩, ⟨HKP.out _ _ _ (blk_below HKZ.out HB5.out)⟩⟩
end Go.Proofs.Ytghbfjmmjfklfaa.H
