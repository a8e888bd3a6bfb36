/- cursor's add: what it makes of the map. -/
import Derived.Test.YtghbfjmmjfklfaaQHSpotKey
import Derived.Test.YtghbfjmmjfklfaaQHAppend
import Derived.Test.YtghbfjmmjfklfaaQHRound
import Derived.Test.YtghbfjmmjfklfaaQHErase
import Derived.Test.YtghbfjmmjfklfaaQHxcursorclasses
import Derived.StillTailTactics
set_option linter.unusedVariables false
set_option linter.unusedSimpArgs false
namespace Go.Proofs.Ytghbfjmmjfklfaa.H
open Go.RowKit Go.Proofs.YtghbfjmmjfklfaaW.PrintWords Go.Proofs.YtghbfjmmjfklfaaW.PrintLast Go.Proofs.YtghbfjmmjfklfaaW.PrintMore
theorem classes_f (k : Int) : cursor_classes.f 1 k = some (clsN k) := by
  unfold cursor_classes.f clsN
  simp only [cursor_classes.j0]
  by_cases c1 : k = 53
  · simp [c1]
  by_cases c2 : k = 54
  · simp [c2]
  by_cases c3 : k = 56
  · simp [c3]
  by_cases c4 : k = 57
  · simp [c4]
  by_cases c5 : k = 58
  · simp [c5]
  by_cases c6 : k = 59
  · simp [c6]
  simp only [if_neg c1, if_neg c2, if_neg c3, if_neg c4, if_neg c5]
  have : (k == 59) = false := by simp [c6]
  rw [this]
  simp [c1, c2, c3, c4, c5, c6]
  split
  · rfl
  · split <;> rfl
theorem mixE : Try.prog.follows .mixedOrders = true := by kernel_rfl
abbrev curO (fi oe ne : Int) (b : Nat) (Ab : Option Addr) (nb cb : Nat) (tk : Int) : Obj := .cells #[.int .i64 fi, .int .i64 oe, .int .i64 ne, .map (some b), .slice Ab nb cb, .int .i64 tk] 77 (0, 0)
theorem infoSpot : (Try.prog.info? 88).map (fun i => (i.zero, i.size, i.bytes)) = some (some (.agg #[.int .u8 0, .int .i64 0]), 2, 16) := by kernel_rfl
abbrev spotC (at_ : Int) (c : Int) : List Value := [.int .u8 c, .int .i64 at_]
theorem setM_nil (M : PMap) (at_ : Int) (o : Option (AT × Int)) : setM M [] at_ o = M := by funext s; simp [setM]
theorem setM_snoc (M : PMap) (ah : List Int) (c at_ : Int) (o : Option (AT × Int)) : setM M (ah ++ [c]) at_ o = fun t => if t = (c, at_) then o else setM M ah at_ o t := by
  funext t
  unfold setM
  by_cases e : t = (c, at_)
  · subst e; simp
  · rw [if_neg e]
    have : ¬ (t.2 = at_ ∧ t.1 = c) := fun h => e (Prod.ext h.2 h.1)
    by_cases h1 : t.2 = at_
    · have h2 : ¬ t.1 = c := fun h => this ⟨h1, h⟩
      simp [h1, h2]
    · simp [h1]
theorem setM_other {M : PMap} {ah : List Int} {c at_ : Int} {o : Option (AT × Int)} (h : c ∉ ah) : setM M ah at_ o (c, at_) = M (c, at_) := by unfold setM; rw [if_neg (fun e => h e.2)]
def ahs (k at_ : Int) (M : PMap) (i : Nat) : List Int := ((clsN k).take i).filter fun c => (M (c, at_)).isNone
theorem ahs_zero (k at_ : Int) (M : PMap) : ahs k at_ M 0 = [] := by simp [ahs]
theorem ahs_all (k at_ : Int) (M : PMap) : ahs k at_ M (clsN k).length = ahN k at_ M := by simp [ahs, ahN]
theorem ahs_succ (k at_ : Int) (M : PMap) (i : Nat) (c : Int) (h : (clsN k)[i]? = some c) : ahs k at_ M (i + 1) = ahs k at_ M i ++ if (M (c, at_)).isNone then [c] else [] := by
  unfold ahs
  rw [List.take_add_one, h, List.filter_append]
  congr 1
  simp only [Option.toList, List.filter_cons, List.filter_nil]
theorem ahs_fresh (k at_ : Int) (M : PMap) (i : Nat) (c : Int) (h : (clsN k)[i]? = some c) : c ∉ ahs k at_ M i := by
  intro hm
  have hm' := (List.mem_filter.1 hm).1
  obtain ⟨j, hj, e⟩ := List.mem_take_iff_getElem.1 hm'
  obtain ⟨hi, e'⟩ := List.getElem?_eq_some_iff.1 h
  have := (List.nodup_iff_pairwise_ne.1 (clsN_nodup k))
  exact absurd (e.trans e'.symm) (List.pairwise_iff_getElem.1 this j i (by omega) hi (by omega))
theorem ahs_len (k at_ : Int) (M : PMap) (i : Nat) : (ahs k at_ M i).length ≤ 2 := by
  unfold ahs
  exact Nat.le_trans (List.length_filter_le _ _) (Nat.le_trans (List.length_take_le' _ _) (clsN_len k))
theorem sizeL_take : ∀ (l : List AT) (i : Nat) (T : AT), l[i]? = some T → sizeL (l.take (i + 1)) = sizeL (l.take i) + sizeT T
  | [], i, T, h => by simp at h
  | x :: r, 0, T, h => by simp at h; subst h; simp [sizeL]
  | x :: r, i + 1, T, h => by
    have := sizeL_take r i T (by simpa using h)
    simp only [List.take_succ_cons, sizeL, this]
    omega
theorem cntL_take : ∀ (l : List AT) (i : Nat) (T : AT), l[i]? = some T → cntL (l.take (i + 1)) = cntL (l.take i) + cntT T
  | [], i, T, h => by simp at h
  | x :: r, 0, T, h => by simp at h; subst h; simp [cntL]
  | x :: r, i + 1, T, h => by
    have := cntL_take r i T (by simpa using h)
    simp only [List.take_succ_cons, cntL, this]
    omega
theorem sizeL_mono : ∀ (l : List AT) (i : Nat), sizeL (l.take i) ≤ sizeL l
  | [], i => by simp
  | x :: r, 0 => by simp [sizeL]
  | x :: r, i + 1 => by
    have := sizeL_mono r i
    simp only [List.take_succ_cons, sizeL]
    omega
theorem sizeL_len : ∀ (l : List AT), l.length ≤ sizeL l
  | [] => by simp
  | x :: r => by
    have := sizeL_len r
    cases x
    simp only [List.length_cons, sizeL, sizeT]
    omega
theorem addL_drop (l : List AT) (i : Nat) (T : AT) (at_ : Int) (M : PMap) (h : l[i]? = some T) : addL (l.drop i) (at_ + cntL (l.take i)) M = addL (l.drop (i + 1)) (at_ + cntL (l.take (i + 1))) (addT T (at_ + cntL (l.take i)) M) := by
  obtain ⟨hi, rfl⟩ := List.getElem?_eq_some_iff.1 h
  rw [List.drop_eq_getElem_cons hi, addL, cntL_take l i _ h, Int.add_assoc]
structure CA (W w : World) (g : Nat) (o : Obj) (b n : Nat) (M : PMap) : Prop where
  gr : W.grownBy w (some b)
  cur : w.heap[g]? = some o
  map : HoldsP w b n M
theorem CA.below {W w w' : World} {g b n : Nat} {o : Obj} {M : PMap} (h : CA W w g o b n M) (hb : Below w.heap.size w w') : CA W w' g o b n M :=
  ⟨World.grownBy.trans h.gr (grown_of_below hb _), blk_below h.cur hb, h.map.below hb⟩
theorem CA.turn {W w w' : World} {g b n n' : Nat} {o : Obj} {M M' : PMap} (h : CA W w g o b n M) (hm : HoldsP w' b n' M') (hg : w.grownBy w' (some b)) (hne : g ≠ b) : CA W w' g o b n' M' :=
  ⟨World.grownBy.trans h.gr hg, (hg.block _ (blk_lt h.cur) (fun e => hne (Option.some.inj e))).trans h.cur, hm⟩
theorem CA.low {W0 W w : World} {g b n : Nat} {o : Obj} {M : PMap} (h : CA W w g o b n M) (hl : Below W0.heap.size W0 W) (hb : W0.heap.size ≤ b) : Below W0.heap.size W0 w :=
  hl.grown h.gr hl.size (fun k hk => by injection hk with hk; omega)
theorem CA.row {W w w' : World} {g b n : Nat} {o : Obj} {M : PMap} {row : Option Nat} (h : CA W w g o b n M) (hg : w.grownBy w' row) (hr : ∀ q, row = some q → W.heap.size ≤ q ∧ q ≠ g ∧ q ≠ b) : CA W w' g o b n M :=
  ⟨⟨hg.os.trans h.gr.os, hg.tape.trans h.gr.tape, hg.output.trans h.gr.output, Nat.le_trans h.gr.size hg.size, fun q hq hne => (hg.block q (Nat.lt_of_lt_of_le hq h.gr.size) (fun e => by have := (hr q e.symm).1; omega)).trans (h.gr.block q hq hne)⟩,
    (hg.block _ (blk_lt h.cur) (fun e => (hr _ e.symm).2.1 rfl)).trans h.cur, h.map.keep (hg.block _ h.map.lt (fun e => (hr _ e.symm).2.2 rfl))⟩
theorem CA.cells {W w : World} {g b n : Nat} {fi oe ne tk : Int} {Ab : Option Addr} {nb cb : Nat} {M : PMap} (h : CA W w g (curO fi oe ne b Ab nb cb tk) b n M) : w.cell? ⟨g, 3, none⟩ = some (.map (some b)) := by
  have := blk_cell h.cur 3
  simpa using this
theorem u8_at {W : World} {A : Option Addr} {l : List Int} (h : Kd.C (Kd.int .u8) W A l.length l) (i : Nat) (hi : i < l.length) : ∃ ad, A = some ad ∧ W.cell? (ad.add i) = some (.int .u8 (l.getD i 0)) := by
  obtain ⟨ad, c, e, _, hK, hc⟩ := Kd.C_get h 0 (i : Int) (by omega) (by omega)
  rw [Int.toNat_natCast] at hK hc
  obtain rfl : c = [.int .u8 (l.getD i 0)] := hK
  exact ⟨ad, e, by simpa [show (Kd.int .u8).sz = 1 from rfl] using hc 0 _ rfl⟩
theorem spot_at {W : World} {A : Option Addr} {at_ : Int} {l : List Int} (h : Kd.C (Kd.raw 2) W A (l.map (spotC at_)).length (l.map (spotC at_))) (i : Nat) (hi : i < l.length) : ∃ ad, A = some ad ∧ W.cell? (ad.add (i * 2)) = some (.int .u8 (l.getD i 0)) ∧ W.cell? ⟨(ad.add (i * 2)).block, (ad.add (i * 2)).off + 1, none⟩ = some (.int .i64 at_) := by
  obtain ⟨ad, c, e, _, hK, hc0⟩ := Kd.C_get h (spotC at_ 0) (i : Int) (by omega) (by simpa using hi)
  have hc : ∀ j u, c[j]? = some u → W.cell? (ad.add (i * 2 + j)) = some u := fun j u hu => by have := hc0 j u hu; rw [Int.toNat_natCast] at this; exact this
  have hc' : c = spotC at_ (l.getD i 0) := by
    have h1 := hK.1
    rw [h1, Int.toNat_natCast, List.getD_eq_getElem?_getD, List.getElem?_map, List.getElem?_eq_getElem hi]
    simp [List.getD_eq_getElem?_getD, List.getElem?_eq_getElem hi]
  subst hc'
  exact ⟨ad, e, by simpa using hc 0 _ rfl, by rw [← add_field _ _ 1 (by omega)]; exact hc 1 _ rfl⟩
theorem grown_row2 {W Y w : World} {row r2 : Option Nat} (h : W.grownBy Y row) (hg : Y.grownBy w r2) (hr : ∀ q, r2 = some q → W.heap.size ≤ q) : W.grownBy w row :=
  ⟨hg.os.trans h.os, hg.tape.trans h.tape, hg.output.trans h.output, Nat.le_trans h.size hg.size, fun q hq hne => (hg.block q (Nat.lt_of_lt_of_le hq h.size) (fun e => by have := hr q e.symm; omega)).trans (h.block q hq hne)⟩
theorem spot_app {w2 wr Y : World} {m ca : Nat} {Aa : Option Addr} {at_ c : Int} {L : List Int} (hrow : Kd.R (Kd.raw 2) 88 wr w2.heap.size (fun q => w2.heap.size ≤ q) (.slice Aa m ca) (L.map (spotC at_))) (hsz : w2.heap.size ≤ wr.heap.size) (hbY : Below wr.heap.size wr Y) (hL : L.length ≤ 2) :
    ∃ g cap w1, (Builtin.append_ #[107, 107] 107 #[.slice Aa m ca, .slice (some ⟨Y.heap.size, 0, none⟩) 1 1]).run Try.prog (Y.alloc (.cells #[.int .u8 c, .int .i64 at_] 88)) = .ok (.slice (some ⟨g, 0, none⟩) (m + 1) cap) w1 ∧ Y.grownBy w1 (Value.slice Aa m ca).ownBlock ∧ (∀ q, (Value.slice Aa m ca).ownBlock = some q → w2.heap.size ≤ q) ∧
      Kd.R (Kd.raw 2) 88 w1 w2.heap.size (fun q => w2.heap.size ≤ q) (.slice (some ⟨g, 0, none⟩) (m + 1) cap) ((L ++ [c]).map (spotC at_)) := by
  obtain ⟨Z, hZ⟩ : ∃ Z, Z = Y.alloc (.cells #[.int .u8 c, .int .i64 at_] 88) := ⟨_, rfl⟩
  have hbZ : Below Y.heap.size Y Z := by rw [hZ]; exact below_alloc (Below.refl _ _) _
  have hs := hbY.size
  obtain ⟨g, cap, w1, hrun, hg, hgo, hbg, hnl, hR1⟩ := append_elem (Kd.raw 2) 88 107 (Kd.R_below hrow hbY) (by omega) (fun k hk => by omega) Try.underlying107 infoSpot rfl (by decide) (by decide) (by rw [List.length_map]; omega) hbZ (spotC at_ c) (spotC at_ c) (by rw [hZ]; exact heap_alloc_new _ _) ⟨rfl, rfl, by intro u hu; simp at hu; rcases hu with rfl | rfl <;> rfl⟩ rfl (by intro u hu; simp at hu; rcases hu with rfl | rfl <;> rfl)
  exact ⟨g, cap, w1, by rw [← hZ]; exact hrun, hg, fun q hq => hrow.1 q hq, by rw [List.map_append, List.map_singleton]; exact hR1⟩
set_option maxHeartbeats 8000000 in
set_option maxRecDepth 100000 in
theorem cadd_calls (W0 : World) (z : Nat) : ∀ (T : AT), SizeOf.sizeOf T < z → AtT W0 T → ∀ (at_ : Int) (g b n : Nat) (fi oe ne tk : Int) (Ab : Option Addr) (nb cb : Nat) (M : PMap) (W : World), Below W0.heap.size W0 W → W0.heap.size ≤ b → g ≠ b →
    W.heap[g]? = some (curO fi oe ne b Ab nb cb tk) → HoldsP W b n M → 0 ≤ at_ → at_ + sizeT T ≤ 1000000000 → n + 4 * sizeT T ≤ 1000000000 →
    Calls Try.prog 39 #[.pointer (some ⟨g, 0, none⟩), T.val, .int .i64 at_] W fun e W' => e = .returned (.int .i64 (cntT T)) ∧ ∃ n', n' ≤ n + 4 * sizeT T ∧ CA W W' g (curO fi oe ne b Ab nb cb tk) b n' (addT T at_ M) := by
  induction z with
  | zero => intro T h; exact absurd h (Nat.not_lt_zero _)
  | succ z ih =>
  rintro ⟨k, w1, wd, A, c, kids⟩ hz hT at_ g b n fi oe ne tk Ab nb cb M W hlow hb hgb hcur hmap hat has hns
  simp only [AT.val, AT.k, AT.w, AT.wd, AT.A, AT.c, AT.kids]
  have IH := Aside0.mk ih
  have HZ := Aside0.mk hz
  have HT := Aside0.mk hT
  have HLOW := Aside0.mk hlow
  have HB := Aside0.mk hb
  have HMAP := Aside0.mk hmap
  have HCUR := Aside0.mk hcur
  simp only [sizeT] at has hns
  have HAS := Aside0.mk has
  have HNS := Aside0.mk hns
  obtain ⟨X, hX⟩ : ∃ V, V = W.alloc (.cells #[.int .u8 k, .int .u8 w1, .int .i64 wd, .slice A kids.length c] 27) := ⟨_, rfl⟩
  have hbX : Below W.heap.size W X := by rw [hX]; exact below_alloc (Below.refl _ _) _
  have HBX := Aside0.mk hbX
  have HK := Aside0.mk (show X.heap[W.heap.size]? = some (.cells #[.int .u8 k, .int .u8 w1, .int .i64 wd, .slice A kids.length c] 27 (0, 0)) by rw [hX]; exact heap_alloc_new _ _)
  have CX := Aside0.mk (show CA W X g (curO fi oe ne b Ab nb cb tk) b n M from ⟨grown_of_below hbX _, blk_below hcur hbX, hmap.below hbX⟩)
  have hu := Try.underlying27
  have huc := Try.underlying77
  have hup := Try.underlying85
  have hus := Try.underlying88
  clear ih hz hT hlow hb hmap hcur hbX has hns
  have hbig := HAS.out
  go_enter Try.func39, Try.ntmps39
  go_upto_region 1 with (fail)
  change Code.wp Try.prog _ _ _ (W.alloc (.cells #[.int .u8 k, .int .u8 w1, .int .i64 wd, .slice A kids.length c] 27))
  rw [← hX]
  clear hX
  have p0 := blk_cell HK.out 0
  have p1 := blk_cell HK.out 1
  have p2 := blk_cell HK.out 2
  have p3 := blk_cell HK.out 3
  have l1 := blk_lt HK.out
  simp at p0 p1 p2 p3
  by_cases hk : k < 50
  · go_wp2
    go_ret
    simp only [cntT, addT, if_pos hk]
    exact ⟨rfl, n, by omega, CX.out⟩
  · have HKN := Aside0.mk hk
    go_upto_region 4 with (fail)
    go_wp2_with (go_at_call 55; refine (cursor_classes.calls 1 k (clsN k) X (classes_f k)).mono ?_; rintro e w2 ⟨v2, rfl, hR2, hb2⟩; obtain ⟨Ac, cc, rfl, hcc, hCc⟩ := Kd.R_reads hR2; have HRC := Aside0.mk hR2; have HCC := Aside0.mk hCc; have HB2 := Aside0.mk hb2; clear hR2 hb2 hCc hcc p0 p1 p2 p3)
    obtain ⟨cl, hcl⟩ : ∃ cl, cl = clsN k := ⟨_, rfl⟩
    have HCL := Aside0.mk hcl
    rw [← hcl] at HRC HCC
    rw [← hcl]
    have hc2 : cl.length ≤ 2 := by rw [hcl]; exact clsN_len k
    have HBYT := Aside0.mk (show ∀ c ∈ cl, 0 ≤ c ∧ c ≤ 255 by rw [hcl]; exact clsN_byte k)
    clear hcl
    have C2 := Aside0.mk (CX.out.below HB2.out)
    have HBW2 := Aside0.mk (below_step HBX.out HB2.out)
    have HGW := Aside0.mk (show g < W.heap.size by have := blk_lt C2.out.cur; exact blk_lt HCUR.out)
    have HBW := Aside0.mk (show b < W.heap.size from HMAP.out.lt)
    have HRC2 := Aside0.mk (show Kd.R (Kd.int .u8) 5 w2 X.heap.size (fun q => some q ≠ some b) (.slice Ac cl.length cc) cl from Kd.R_mono (Kd.R_bound HRC.out) (fun q hq e => by injection e with e; have := hq.2.1; have := HBX.out.size; have := HBW.out; omega))
    go_loopg [7, 24] cl.length (fun kq v7 v24 w' => ∃ (i n' m ca : Nat) (Aa : Option Addr), v7 = .slice Aa m ca ∧ v24 = .int .i64 i ∧ i ≤ cl.length ∧ Aside0 (n' ≤ n + i) ∧ Aside0 (kq = cl.length - i) ∧ Aside0 (CA W w' g (curO fi oe ne b Ab nb cb tk) b n' (setM M (ahs k at_ M i) at_ (some nilA))) ∧ Aside0 (w2.grownBy w' (some b)) ∧ Aside0 (Kd.R (Kd.raw 2) 88 w' w2.heap.size (fun q => w2.heap.size ≤ q) (.slice Aa m ca) ((ahs k at_ M i).map (spotC at_))))
    case atStart => exact ⟨0, n, 0, 0, none, rfl, rfl, Nat.zero_le _, ⟨Nat.le_refl _⟩, ⟨rfl⟩, ⟨by rw [ahs_zero, setM_nil]; exact C2.out⟩, ⟨World.grownBy.refl _ _⟩, ⟨by rw [ahs_zero]; exact Kd.R_nil _ _ _ _ _⟩⟩
    case round =>
      obtain ⟨i, n', m, ca, Aa, rfl, rfl, hi, HN', HKQ, CI, HG2, HRA⟩ := hrel
      by_cases hlt : i < cl.length
      · obtain ⟨adc, e0, q0⟩ := u8_at (Kd.R_reads' (Kd.R_grown HRC2.out HG2.out (fun q hq => hq))).2.2 i hlt
        subst e0
        obtain ⟨x, hx⟩ : ∃ x, x = cl.getD i 0 := ⟨_, rfl⟩
        rw [← hx] at q0
        have hxi : (clsN k)[i]? = some x := by rw [← HCL.out, hx, List.getD_eq_getElem?_getD, List.getElem?_eq_getElem hlt]; rfl
        have HXI := Aside0.mk hxi
        have HXB := Aside0.mk (show inS (x, at_) from ⟨HBYT.out x (by rw [HCL.out]; exact List.mem_of_getElem? hxi), by unfold inI; have := HAS.out; simp only; omega⟩)
        have hlk := CI.out.map.look_ok (x, at_) HXB.out
        rw [setM_other (ahs_fresh k at_ M i x hxi)] at hlk
        have hsn := ahs_succ k at_ M i x hxi
        have c3 := CI.out.cells
        have lg := blk_lt CI.out.cur
        clear hx hxi
        cases ho : M (x, at_) with
        | some y =>
          obtain ⟨⟨yk, yw, yd, yA, yc, yl⟩, yn⟩ := y
          rw [ho] at hlk hsn
          simp only [Option.getD_some, Option.isSome_some, pv, partV, AT.k, AT.w, AT.wd, AT.A, AT.c, AT.kids, Option.isNone_some, Bool.false_eq_true, if_false, List.append_nil] at hlk hsn
          have HSN := Aside0.mk hsn
          clear ho hsn
          go_wp2
          go_roundg (cl.length - (i + 1))
          case measure => have := HKQ.out; omega
          case rel => exact ⟨i + 1, n', m, ca, Aa, rfl, by go_num, by omega, ⟨by have := HN'.out; omega⟩, ⟨rfl⟩, ⟨by rw [HSN.out]; exact CI.out.below (below_alloc (Below.refl _ _) _)⟩, ⟨World.grownBy.trans HG2.out (grown_of_below (below_alloc (Below.refl _ _) _) _)⟩, ⟨by rw [HSN.out]; exact Kd.R_alloc HRA.out _⟩⟩
        | none =>
          rw [ho] at hlk hsn
          simp only [Option.getD_none, Option.isSome_none, pv, partV, AT.k, AT.w, AT.wd, AT.A, AT.c, AT.kids, List.length_nil, Option.isNone_none, if_true] at hlk hsn
          have HSN := Aside0.mk hsn
          clear ho hsn
          go_upto_region 9 with (fail)
          obtain ⟨Y, hY⟩ : ∃ V, V = wr.alloc (.cells #[.int .u8 0, .int .u8 0, .int .i64 0, .slice none 0 0, .int .i64 0] 85) := ⟨_, rfl⟩
          have HYB := Aside0.mk (show Below wr.heap.size wr Y by rw [hY]; exact below_alloc (Below.refl _ _) _)
          change Code.wp Try.prog _ _ _ (wr.alloc (.cells #[.int .u8 0, .int .u8 0, .int .i64 0, .slice none 0 0, .int .i64 0] 85))
          rw [← hY]
          clear hY c3 lg hlk
          have CY := Aside0.mk (CI.out.below HYB.out)
          have HL2 := ahs_len k at_ M i
          obtain ⟨gr, cap, w5, hrun, hg5, hgo5, hR5⟩ := spot_app (c := x) HRA.out HG2.out.size HYB.out HL2
          have C5 := Aside0.mk (CY.out.row (w' := w5) hg5 (fun q hq => by have h1 := hgo5 q hq; have h2 := HB2.out.size; have h3 := HBX.out.size; have h4 := HGW.out; have h5 := HBW.out; exact ⟨by omega, by omega, by omega⟩))
          have HG5 := Aside0.mk (show w2.grownBy w5 (some b) from grown_row2 (World.grownBy.trans HG2.out (grown_of_below HYB.out _)) hg5 hgo5)
          have hsto := C5.out.map.store (x, at_) HXB.out nilA (Nat.lt_of_le_of_lt (show n' ≤ 1000000000 by have := HN'.out; have := HNS.out; omega) (by decide))
          obtain ⟨w6, hup, hM6, ht6⟩ := hsto
          have q5 := C5.out.cells
          clear HYB CI HRA hg5 hgo5
          simp only [pv, partV, nilA, AT.k, AT.w, AT.wd, AT.A, AT.c, AT.kids, List.length_nil] at hup
          go_wp2_with (at_builtin; refine wpL_append rfl _ _ _ rfl hrun ?_)
          go_roundg (cl.length - (i + 1))
          case measure => have := HKQ.out; omega
          case rel => exact ⟨i + 1, n' + 1, m + 1, cap, some ⟨gr, 0, none⟩, rfl, by go_num, by omega, ⟨by have := HN'.out; omega⟩, ⟨rfl⟩, ⟨(C5.out.turn (hM6.congr (by rw [HSN.out]; exact (setM_snoc M _ x at_ _).symm)) (turned_grown ht6) hgb)⟩, ⟨World.grownBy.trans HG5.out (turned_grown ht6)⟩, ⟨by rw [HSN.out]; exact Kd.R_grown hR5 (turned_grown ht6) (fun q hq e => by injection e with e; have h2 := HB2.out.size; have h3 := HBX.out.size; have h5 := HBW.out; omega)⟩⟩
      · obtain rfl : i = cl.length := by omega
        have hall : ahs k at_ M cl.length = ahN k at_ M := by rw [HCL.out]; exact ahs_all k at_ M
        rw [hall] at CI HRA
        obtain ⟨ah, hah⟩ : ∃ ah, ah = ahN k at_ M := ⟨_, rfl⟩
        rw [← hah] at CI HRA
        have HAH := Aside0.mk hah
        have hal : ah.length ≤ 2 := by rw [hah]; exact Nat.le_trans (List.length_filter_le _ _) (clsN_len k)
        have HN1 := Aside0.mk (show n' ≤ n + 2 by have := HN'.out; omega)
        obtain ⟨M1, hM1⟩ : ∃ M1, M1 = setM M ah at_ (some nilA) := ⟨_, rfl⟩
        rw [← hM1] at CI
        have HM1 := Aside0.mk hM1
        clear hall hah hM1 HKQ HN' HRC HCC HRC2 hlt hi
        have HK2 := Aside0.mk (show w2.heap[W.heap.size]? = some (.cells #[.int .u8 k, .int .u8 w1, .int .i64 wd, .slice A kids.length c] 27 (0, 0)) from blk_below HK.out HB2.out)
        have hkr : wr.heap[W.heap.size]? = some (.cells #[.int .u8 k, .int .u8 w1, .int .i64 wd, .slice A kids.length c] 27 (0, 0)) := (HG2.out.block _ (blk_lt HK2.out) (fun e => by injection e with e; have := HBW.out; omega)).trans HK2.out
        have p3 := blk_cell hkr 3
        have lr := blk_lt hkr
        simp at p3
        go_upto_region 14 with (fail)
        clear p3 lr hkr
        go_loopg [12, 59] kids.length (fun kq v12 v59 w' => ∃ (j n2 : Nat) (M2 : PMap), v12 = .int .i64 (cntL (kids.take j)) ∧ v59 = .int .i64 j ∧ j ≤ kids.length ∧ Aside0 (n2 ≤ n' + 4 * sizeL (kids.take j)) ∧ Aside0 (kq = kids.length - j) ∧ Aside0 (CA W w' g (curO fi oe ne b Ab nb cb tk) b n2 M2) ∧ Aside0 (w2.grownBy w' (some b)) ∧ Aside0 (addL (kids.drop j) (at_ + cntL (kids.take j)) M2 = addL kids at_ M1) ∧ Aside0 (Kd.R (Kd.raw 2) 88 w' w2.heap.size (fun q => w2.heap.size ≤ q) (.slice Aa m ca) (ah.map (spotC at_))))
        case atStart => exact ⟨0, n', M1, by simp [cntL], rfl, Nat.zero_le _, ⟨by omega⟩, ⟨rfl⟩, CI, HG2, ⟨by simp [cntL]⟩, HRA⟩
        case round =>
          obtain ⟨j, n2, M2, rfl, rfl, hj, HN2, HKQ, CJ, HGJ, HADD, HRJ⟩ := hrel
          by_cases hlt : j < kids.length
          · obtain ⟨adk, rfl, hw0, hTk⟩ := AtT.kid HT.out j hlt
            obtain ⟨T, hTe⟩ : ∃ T, T = kids[j] := ⟨_, rfl⟩
            rw [← hTe] at hw0 hTk
            have hje : kids[j]? = some T := by rw [hTe]; exact List.getElem?_eq_getElem hlt
            have HTK := Aside0.mk hTk
            have HJE := Aside0.mk hje
            have HSZ := Aside0.mk (show SizeOf.sizeOf T < z by have := List.sizeOf_lt_of_mem (List.mem_of_getElem? hje); have := HZ.out; simp at this; omega)
            have HLJ := Aside0.mk (CA.low CJ.out HLOW.out HB.out)
            have hc1 := cntL_take kids j T hje
            have hs1 := sizeL_take kids j T hje
            have hs2 := sizeL_mono kids (j + 1)
            have hc2 := (cntL_le (kids.take j))
            have hc3 := cntT_le T
            have hl5 := sizeL_len kids
            obtain ⟨q0, q1, q2, q3⟩ := hw0.below HLJ.out
            have lj := blk_lt CJ.out.cur
            have hbig := HAS.out
            have HE := Aside0.mk hc1
            have HE2 := Aside0.mk hs1
            clear hje hTk hTe hw0
            have HBA := Aside0.mk (below_alloc (Below.refl wr.heap.size wr) (.cells #[.int .u8 T.k, .int .u8 T.w, .int .i64 T.wd, .slice T.A T.kids.length T.c] 27))
            have CY := Aside0.mk (CJ.out.below HBA.out)
            have hcall := IH.out T HSZ.out HTK.out (at_ + cntL (kids.take j)) g b n2 fi oe ne tk Ab nb cb M2 _ (below_step HLJ.out HBA.out) HB.out hgb CY.out.cur CY.out.map (by omega) (by omega) (by have := HN2.out; have := HNS.out; have := HN1.out; omega)
            simp only [AT.val] at hcall
            go_wp2_with (go_at_call 39; refine hcall.mono ?_; rintro e w5 ⟨rfl, n5, hn5, C5⟩; have C5 := Aside0.mk C5; have HN5 := Aside0.mk hn5; clear hn5 hcall)
            go_roundg (kids.length - (j + 1))
            case measure => have := HKQ.out; omega
            case rel => exact ⟨j + 1, n5, addT T (at_ + cntL (kids.take j)) M2, by rw [HE.out], by go_num, by omega, ⟨by have := HN5.out; have := HN2.out; have := HE2.out; omega⟩, ⟨rfl⟩, ⟨⟨World.grownBy.trans CY.out.gr C5.out.gr, C5.out.cur, C5.out.map⟩⟩, ⟨World.grownBy.trans HGJ.out (World.grownBy.trans (grown_of_below HBA.out _) C5.out.gr)⟩, ⟨(addL_drop kids j T at_ M2 HJE.out).symm.trans HADD.out⟩, ⟨Kd.R_grown (Kd.R_below HRJ.out HBA.out) C5.out.gr (fun q hq e => by injection e with e; have h2 := HB2.out.size; have h3 := HBX.out.size; have h5 := HBW.out; omega)⟩⟩
          · obtain rfl : j = kids.length := by omega
            obtain rfl : M2 = addL kids at_ M1 := by have h := HADD.out; rw [List.drop_length, addL] at h; exact h
            rw [List.take_length] at *
            obtain ⟨cn, hcn⟩ : ∃ cn, cn = cntL kids := ⟨_, rfl⟩
            rw [← hcn]
            have hc2 := cntL_le kids
            have HCN := Aside0.mk hcn
            have hcb : 0 ≤ cn ∧ cn ≤ 1000000000 := by have := HAS.out; omega
            have HN2' := Aside0.mk (show n2 ≤ n + 2 + 4 * sizeL kids by have := HN2.out; have := HN1.out; omega)
            obtain ⟨M3, hM3⟩ : ∃ M3, M3 = addL kids at_ M1 := ⟨_, rfl⟩
            rw [← hM3] at CJ
            have HM3 := Aside0.mk hM3
            obtain ⟨o, ho⟩ : ∃ o, o = (if cn = 0 then none else some (AT.node k w1 wd A c kids, cn) : Option (AT × Int)) := ⟨_, rfl⟩
            have HO := Aside0.mk ho
            clear hM3 ho HADD HN2 HKQ hc2 hcn hlt hj
            obtain rfl : m = ah.length := by
              obtain ⟨A3, c3, e3, _, _⟩ := Kd.R_reads HRJ.out
              injection e3 with _ h3 _
              rw [List.length_map] at h3
              exact h3
            go_upto_region 19 with (fail)
            go_loopg [74] ah.length (fun kq v74 w' => ∃ (i : Nat), v74 = .int .i64 i ∧ i ≤ ah.length ∧ Aside0 (kq = ah.length - i) ∧ Aside0 (∃ n3, n3 ≤ n2 + i ∧ CA W w' g (curO fi oe ne b Ab nb cb tk) b n3 (setM M3 (ah.take i) at_ o)) ∧ Aside0 (w2.grownBy w' (some b)) ∧ Aside0 (Kd.R (Kd.raw 2) 88 w' w2.heap.size (fun q => w2.heap.size ≤ q) (.slice Aa ah.length ca) (ah.map (spotC at_))))
            case atStart => exact ⟨0, rfl, Nat.zero_le _, ⟨rfl⟩, ⟨n2, by omega, by rw [List.take_zero, setM_nil]; exact CJ.out⟩, HGJ, HRJ⟩
            case round =>
              obtain ⟨i, rfl, hi, HKQ, HC3, HG3, HR3⟩ := hrel
              by_cases hlt : i < ah.length
              · obtain ⟨ada, e0, q0, q1⟩ := spot_at (Kd.R_reads' HR3.out).2.2 i hlt
                subst e0
                obtain ⟨x, hx⟩ : ∃ x, x = ah.getD i 0 := ⟨_, rfl⟩
                rw [← hx] at q0
                have hxi : ah[i]? = some x := by rw [hx, List.getD_eq_getElem?_getD, List.getElem?_eq_getElem hlt]; rfl
                have HXI := Aside0.mk hxi
                have HXB := Aside0.mk (show inS (x, at_) from ⟨clsN_byte k x (by have h1 := List.mem_of_getElem? hxi; rw [HAH.out] at h1; exact (List.mem_filter.1 h1).1), by unfold inI; have := HAS.out; simp only; omega⟩)
                clear hx hxi
                go_upto_region 21 with (fail)
                obtain ⟨Y, hY⟩ : ∃ V, V = wr.alloc (.cells #[.int .u8 x, .int .i64 at_] 88) := ⟨_, rfl⟩
                have HYB := Aside0.mk (show Below wr.heap.size wr Y by rw [hY]; exact below_alloc (Below.refl _ _) _)
                have hy0 : Y.heap[wr.heap.size]? = some (.cells #[.int .u8 x, .int .i64 at_] 88 (0, 0)) := by rw [hY]; exact heap_alloc_new _ _
                change Code.wp Try.prog _ _ _ (wr.alloc (.cells #[.int .u8 x, .int .i64 at_] 88))
                rw [← hY]
                obtain ⟨n3, hn3, C3⟩ := HC3.out
                have CY := Aside0.mk (C3.below HYB.out)
                have HGY := Aside0.mk (World.grownBy.trans HG3.out (grown_of_below HYB.out _))
                have HRY := Aside0.mk (Kd.R_below HR3.out HYB.out)
                have htk : setM M3 (ah.take (i + 1)) at_ o = fun t => if t = (x, at_) then o else setM M3 (ah.take i) at_ o t := by rw [List.take_add_one, HXI.out, Option.toList_some, setM_snoc]
                have HTK := Aside0.mk htk
                clear hY q0 q1 htk C3
                have y0 := blk_cell hy0 0
                have y1 := blk_cell hy0 1
                simp at y0 y1
                have c3 := CY.out.cells
                have lg := blk_lt CY.out.cur
                have ly := blk_lt hy0
                have HBZ := Aside0.mk (show Below Y.heap.size Y Y.drew from (Below.refl _ _).drew)
                have CZ := Aside0.mk (CY.out.below HBZ.out)
                by_cases hz : cn = 0
                · obtain ⟨w6, hdel, hM6, ht6⟩ := CZ.out.map.drop (x, at_) HXB.out 0
                  change (Builtin.delete_ #[74, 88] 0 #[.map (some b), .agg #[.int .u8 x, .int .i64 at_]]).run Try.prog Y.drew = _ at hdel
                  go_upto_region 22 with (fail)
                  go_still_tail 5, mixE
                  go_wp2
                  obtain rfl : o = none := by rw [HO.out, if_pos hz]
                  subst hz
                  go_roundg (ah.length - (i + 1))
                  case measure => have := HKQ.out; omega
                  case rel => exact ⟨i + 1, by go_num, by omega, ⟨rfl⟩, ⟨_, by omega, CZ.out.turn (hM6.congr HTK.out.symm) (turned_grown ht6) hgb⟩, ⟨World.grownBy.trans HGY.out (World.grownBy.trans (grown_of_below HBZ.out _) (turned_grown ht6))⟩, ⟨Kd.R_grown (Kd.R_below HRY.out HBZ.out) (turned_grown ht6) (fun q hq e => by injection e with e; have h2 := HB2.out.size; have h3 := HBX.out.size; have h5 := HBW.out; omega)⟩⟩
                · obtain ⟨w6, hup, hM6, ht6⟩ := CZ.out.map.store (x, at_) HXB.out (.node k w1 wd A c kids, cn) (Nat.lt_of_le_of_lt (show n3 ≤ 1000000000 by have := HN2'.out; have := HNS.out; omega) (by decide))
                  have hyn : Y.heap[W.heap.size]? = some (.cells #[.int .u8 k, .int .u8 w1, .int .i64 wd, .slice A kids.length c] 27 (0, 0)) := (HGY.out.block _ (blk_lt HK2.out) (fun e => by injection e with e; have := HBW.out; omega)).trans HK2.out
                  have p0 := blk_cell hyn 0
                  have p1 := blk_cell hyn 1
                  have p2 := blk_cell hyn 2
                  have p3 := blk_cell hyn 3
                  have lr := blk_lt hyn
                  simp at p0 p1 p2 p3
                  simp only [pv, partV, AT.k, AT.w, AT.wd, AT.A, AT.c, AT.kids] at hup
                  go_upto_region 23 with (fail)
                  go_still_tail 8, mixE
                  go_wp2
                  obtain rfl : o = some (AT.node k w1 wd A c kids, cn) := by rw [HO.out, if_neg hz]
                  go_roundg (ah.length - (i + 1))
                  case measure => have := HKQ.out; omega
                  case rel => exact ⟨i + 1, by go_num, by omega, ⟨rfl⟩, ⟨_, by omega, CZ.out.turn (hM6.congr HTK.out.symm) (turned_grown ht6) hgb⟩, ⟨World.grownBy.trans HGY.out (World.grownBy.trans (grown_of_below HBZ.out _) (turned_grown ht6))⟩, ⟨Kd.R_grown (Kd.R_below HRY.out HBZ.out) (turned_grown ht6) (fun q hq e => by injection e with e; have h2 := HB2.out.size; have h3 := HBX.out.size; have h5 := HBW.out; omega)⟩⟩
              · obtain rfl : i = ah.length := by omega
                go_wp2
                go_ret
                simp only [cntT, addT, if_neg (show ¬ k < 50 from by have := HKN.out; omega)]
                obtain ⟨n3, hn3, CZ⟩ := HC3.out
                rw [List.take_length, HM3.out, HM1.out, HAH.out, HO.out, HCN.out] at CZ
                refine ⟨by rw [← HCN.out]; rfl, n3, ?_, CZ⟩
                have := HN2'.out
                simp only [sizeT]
                omega
end Go.Proofs.Ytghbfjmmjfklfaa.H
