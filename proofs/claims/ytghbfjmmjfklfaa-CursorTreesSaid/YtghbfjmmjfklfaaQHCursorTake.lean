/- (*cursor.Cursor).Take and Taken. -/
import Derived.Test.YtghbfjmmjfklfaaQHCursorNew
import Derived.WalkSpells
import Derived.Test.YtghbfjmmjfklfaaQHRound
set_option linter.unusedVariables false
set_option linter.unusedSimpArgs false
namespace Go.Proofs.Ytghbfjmmjfklfaa.H
open Go.RowKit Go.Proofs.YtghbfjmmjfklfaaW.PrintWords Go.Proofs.YtghbfjmmjfklfaaW.PrintLast Go.Proofs.YtghbfjmmjfklfaaW.PrintMore
abbrev put4 (w : World) (q : Nat) (u0 u1 u2 u3 : Value) : World := (((w.setCell ⟨q, 0, none⟩ u0).setCell ⟨q, 1, none⟩ u1).setCell ⟨q, 2, none⟩ u2).setCell ⟨q, 3, none⟩ u3
theorem put4_at {w : World} {q : Nat} {t : TypeId} {v0 v1 v2 v3 : Value} (h : w.heap[q]? = some (.cells #[v0, v1, v2, v3] t (0, 0))) (u0 u1 u2 u3 : Value) : (put4 w q u0 u1 u2 u3).heap[q]? = some (.cells #[u0, u1, u2, u3] t (0, 0)) := by
  simpa using blk_set (blk_set (blk_set (blk_set h 0 u0) 1 u1) 2 u2) 3 u3
theorem put4_other {w : World} {q p : Nat} (hp : p ≠ q) (u0 u1 u2 u3 : Value) : (put4 w q u0 u1 u2 u3).heap[p]? = w.heap[p]? := by
  rw [Below.heap_setCell _ _ _ _ hp, Below.heap_setCell _ _ _ _ hp, Below.heap_setCell _ _ _ _ hp, Below.heap_setCell _ _ _ _ hp]
theorem put4_below {n : Nat} {w0 w : World} {q : Nat} (h : Below n w0 w) (hq : n ≤ q) (u0 u1 u2 u3 : Value) : Below n w0 (put4 w q u0 u1 u2 u3) := (((h.setCell hq _).setCell hq _).setCell hq _).setCell hq _
theorem grown_set (W : World) (b i : Nat) (v : Value) : W.grownBy (W.setCell ⟨b, i, none⟩ v) (some b) :=
  ⟨by simp [World.setCell], by simp [World.setCell], by simp [World.setCell], by simp, fun q hq hf => Below.heap_setCell _ _ _ _ (show q ≠ b from fun e => hf (e ▸ rfl))⟩
theorem CN.tick {w0 w v : World} {n0 g b r cap : Nat} {fi oe ne tk tk' : Int} {nm : Nat} {M : PMap} {xs : List Int} (h : CN w0 w n0 g b r cap fi oe ne tk nm M xs) (hg : w.grownBy v (some g)) (hc : v.heap[g]? = some (curO fi oe ne b (some ⟨r, 0, none⟩) xs.length cap tk')) : CN w0 v n0 g b r cap fi oe ne tk' nm M xs :=
  ⟨h.low.grown hg (Nat.le_of_lt (Nat.lt_of_le_of_lt h.n1.1 (blk_lt h.cur))) (fun k hk => by injection hk with hk; exact hk ▸ h.n1.1), hc, h.map.keep (hg.block _ h.map.lt (fun e => h.n2.1 (Option.some.inj e).symm)), Kd.R_grown h.row hg (fun q hq e => hq.2.2 (Option.some.inj e)), h.n1, h.n2⟩
def takeF (fi oe ne : Int) (M : PMap) (xs : List Int) (cl at_ : Int) : Option (AT × Int) :=
  if at_ < 0 then none else
  if fi ≤ at_ then (if at_ < ne ∨ (xs.length : Int) < at_ - ne then none else M (cl, at_ - ne + oe)) else
  match M (cl, at_) with
  | none => none
  | some (T, n) => if fi ≤ xs.getD (at_ + n).toNat 0 then none else some (T, n)
theorem map_nil_ne (bm : Nat) (w : World) : (binOp .eql 74 (.map (some bm)) (.map none)).run Try.prog w = .ok (.bool false) w := run_eql_map_nil w _ _ _ (some bm) Try.underlying74
abbrev zNode : Value := .agg #[.int .u8 0, .int .u8 0, .int .i64 0, .slice none 0 0]
def TakePost (w0 W : World) (n0 g b r cap : Nat) (fi oe ne tk : Int) (nm : Nat) (M : PMap) (xs : List Int) (o : Option (AT × Int)) (e : Ending) (W' : World) : Prop :=
  W.grownBy W' (some g) ∧ ((o = none ∧ e = .returned (.tuple #[zNode, .int .i64 0, .bool false]) ∧ CN w0 W' n0 g b r cap fi oe ne tk nm M xs) ∨ ∃ T n, o = some (T, n) ∧ e = .returned (.tuple #[T.val, .int .i64 n, .bool true]) ∧ CN w0 W' n0 g b r cap fi oe ne (tk + 1) nm M xs)
theorem TakePost.drew {w0 W : World} {n0 g b r cap : Nat} {fi oe ne tk : Int} {nm : Nat} {M : PMap} {xs : List Int} {o : Option (AT × Int)} {e : Ending} {W' : World} (h : TakePost w0 W n0 g b r cap fi oe ne tk nm M xs o e W') : TakePost w0 W n0 g b r cap fi oe ne tk nm M xs o e W'.drew := by
  obtain ⟨h1, h2⟩ := h
  have hb : Below W'.heap.size W' W'.drew := (Below.refl _ _).drew
  refine ⟨World.grownBy.trans h1 (grown_of_below hb _), ?_⟩
  rcases h2 with ⟨a, b, c⟩ | ⟨T, n, a, b, c⟩
  · exact .inl ⟨a, b, c.below hb⟩
  · exact .inr ⟨T, n, a, b, c.below hb⟩
set_option maxHeartbeats 8000000 in
set_option maxRecDepth 100000 in
theorem ctake_calls {w0 W : World} {n0 g b r cap : Nat} {fi oe ne tk : Int} {nm : Nat} {M : PMap} {xs : List Int} (h : CN w0 W n0 g b r cap fi oe ne tk nm M xs) (hM : ∀ s T n, M s = some (T, n) → 0 ≤ n ∧ 0 ≤ s.2 ∧ s.2 + n < xs.length) (hx : xs.length ≤ 1000001) (hfi : 0 ≤ fi ∧ fi ≤ ne ∧ ne ≤ 1048576 ∧ 0 ≤ oe ∧ oe ≤ 1000000) (htk : 0 ≤ tk ∧ tk ≤ 1000000) (cl at_ : Int) (hcl : 0 ≤ cl ∧ cl ≤ 255) (hat : inI at_) :
    Calls Try.prog 14 #[.pointer (some ⟨g, 0, none⟩), .int .u8 cl, .int .i64 at_] W fun e W' => TakePost w0 W n0 g b r cap fi oe ne tk nm M xs (takeF fi oe ne M xs cl at_) e W' := by
  obtain ⟨X, hX⟩ : ∃ V, V = W.alloc (.cells #[.int .u8 0, .int .u8 0, .int .i64 0, .slice none 0 0] 27) := ⟨_, rfl⟩
  have HBX := Aside0.mk (show Below W.heap.size W X by rw [hX]; exact below_alloc (Below.refl _ _) _)
  have HRX := Aside0.mk (show X.heap[W.heap.size]? = some (.cells #[.int .u8 0, .int .u8 0, .int .i64 0, .slice none 0 0] 27 (0, 0)) by rw [hX]; exact heap_alloc_new _ _)
  have HC := Aside0.mk (h.below HBX.out)
  have HMM := Aside0.mk hM
  have HH := Aside0.mk h
  have HTK := Aside0.mk htk
  have HGW := Aside0.mk (blk_lt h.cur)
  have hu := Try.underlying27
  have huc := Try.underlying77
  have hup := Try.underlying85
  have hmn := map_nil_ne b X
  unfold inI at hat
  clear h hM htk
  go_enter Try.func14, Try.ntmps14
  go_upto_region 1 with (fail)
  change Code.wp Try.prog _ _ _ (W.alloc (.cells #[.int .u8 0, .int .u8 0, .int .i64 0, .slice none 0 0] 27))
  rw [← hX]
  clear hX
  have p0 := blk_cell HRX.out 0
  have p1 := blk_cell HRX.out 1
  have p2 := blk_cell HRX.out 2
  have p3 := blk_cell HRX.out 3
  have f0 := blk_frozen HRX.out 0
  have f1 := blk_frozen HRX.out 1
  have f2 := blk_frozen HRX.out 2
  have f3 := blk_frozen HRX.out 3
  have lX := blk_lt HRX.out
  simp at p0 p1 p2 p3
  obtain ⟨c0, c1, c2, c3, c4, c5⟩ := HC.out.cells
  have lg := blk_lt HC.out.cur
  have NONE : ∀ Z, Below X.heap.size X Z → takeF fi oe ne M xs cl at_ = none → TakePost w0 W n0 g b r cap fi oe ne tk nm M xs (takeF fi oe ne M xs cl at_) (.returned (.tuple #[zNode, .int .i64 0, .bool false])) (put4 Z W.heap.size (.int .u8 0) (.int .u8 0) (.int .i64 0) (.slice none 0 0)) := by
    intro Z hZ ht
    have hgn : g ≠ W.heap.size := by have := HGW.out; omega
    have hb1 := put4_below (below_step HBX.out hZ) (Nat.le_refl _) (.int .u8 0) (.int .u8 0) (.int .i64 0) (.slice none 0 0)
    exact ⟨grown_of_below hb1 _, .inl ⟨ht, rfl, HH.out.below hb1⟩⟩
  have NONE := Aside0.mk NONE
  have SOME : ∀ Y T n, Below X.heap.size X Y → takeF fi oe ne M xs cl at_ = some (T, n) → TakePost w0 W n0 g b r cap fi oe ne tk nm M xs (takeF fi oe ne M xs cl at_) (.returned (.tuple #[T.val, .int .i64 n, .bool true])) (put4 (Y.setCell ⟨g, 5, none⟩ (.int .i64 (tk + 1))).drew W.heap.size (.int .u8 T.k) (.int .u8 T.w) (.int .i64 T.wd) (.slice T.A T.kids.length T.c)) := by
    intro Y T n hY ht
    have hgn : g ≠ W.heap.size := by have := HGW.out; omega
    have hb0 := below_step HBX.out hY
    have hg1 : W.grownBy (Y.setCell ⟨g, 5, none⟩ (.int .i64 (tk + 1))).drew (some g) := World.grownBy.trans (World.grownBy.trans (grown_of_below hb0 _) (grown_set _ _ _ _)) (grown_of_below (Below.refl _ _).drew _)
    have hb2 : Below W.heap.size (Y.setCell ⟨g, 5, none⟩ (.int .i64 (tk + 1))).drew (put4 (Y.setCell ⟨g, 5, none⟩ (.int .i64 (tk + 1))).drew W.heap.size (.int .u8 T.k) (.int .u8 T.w) (.int .i64 T.wd) (.slice T.A T.kids.length T.c)) := put4_below (Below.refl _ _) (Nat.le_refl _) _ _ _ _
    have hg2 : W.grownBy (put4 (Y.setCell ⟨g, 5, none⟩ (.int .i64 (tk + 1))).drew W.heap.size (.int .u8 T.k) (.int .u8 T.w) (.int .i64 T.wd) (.slice T.A T.kids.length T.c)) (some g) := ⟨hb2.os.trans hg1.os, hb2.tape.trans hg1.tape, hb2.output.trans hg1.output, Nat.le_trans hg1.size hb2.size, fun q hq hne => (hb2.block q hq).trans (hg1.block q hq hne)⟩
    refine ⟨hg2, .inr ⟨T, n, ht, rfl, HH.out.tick hg2 ?_⟩⟩
    rw [hb2.block g HGW.out]
    have hbs := blk_set (blk_below HH.out.cur hb0) 5 (.int .i64 (tk + 1))
    simp at hbs
    exact hbs
  have SOME := Aside0.mk SOME
  clear HH
  by_cases h1 : at_ < 0
  · have HT := Aside0.mk (show takeF fi oe ne M xs cl at_ = none by unfold takeF; rw [if_pos h1])
    go_wp2
    refine bodyPost_ret (results_ctt rfl _ _ W.heap.size 27 _ (0, 0) _ rfl (put4_at HRX.out _ _ _ _) Try.underlying27 rfl (by kernel_rfl)) rfl ?_
    exact NONE.out X (Below.refl _ _) HT.out
  by_cases h2 : fi ≤ at_
  · by_cases h3 : at_ < ne
    · have HT := Aside0.mk (show takeF fi oe ne M xs cl at_ = none by unfold takeF; rw [if_neg h1, if_pos h2, if_pos (.inl h3)])
      go_wp2
      go_quiet (fail)
      have HBN := Aside0.mk (show Below X.heap.size X (X.drewN nq) from ⟨rfl, rfl, rfl, Nat.le_refl _, fun _ _ => rfl⟩)
      go_wp2
      refine bodyPost_ret (results_ctt rfl _ _ W.heap.size 27 _ (0, 0) _ rfl (put4_at ((HBN.out.block _ lX).trans HRX.out) _ _ _ _) Try.underlying27 rfl (by kernel_rfl)) rfl ?_
      exact NONE.out _ HBN.out HT.out
    by_cases h4 : (xs.length : Int) < at_ - ne
    · have hd3 : decide (at_ < ne) = false := decide_eq_false h3
      have hd4 : decide ((xs.length : Int) < at_ - ne) = true := decide_eq_true h4
      have hw1 : IntKind.i64.wrap (at_ - ne) = at_ - ne := IntWalk.i64_in _ ⟨by omega, by omega⟩
      have HT := Aside0.mk (show takeF fi oe ne M xs cl at_ = none by unfold takeF; rw [if_neg h1, if_pos h2, if_pos (.inr h4)])
      go_wp2
      go_quiet (fail)
      have HBN := Aside0.mk (show Below X.heap.size X (X.drewN nq) from ⟨rfl, rfl, rfl, Nat.le_refl _, fun _ _ => rfl⟩)
      go_wp2
      refine bodyPost_ret (results_ctt rfl _ _ W.heap.size 27 _ (0, 0) _ rfl (put4_at ((HBN.out.block _ lX).trans HRX.out) _ _ _ _) Try.underlying27 rfl (by kernel_rfl)) rfl ?_
      exact NONE.out _ HBN.out HT.out
    have HTE := Aside0.mk (show takeF fi oe ne M xs cl at_ = M (cl, at_ - ne + oe) by unfold takeF; rw [if_neg h1, if_pos h2, if_neg (by omega)])
    have hin : inS (cl, at_ - ne + oe) := ⟨hcl, by unfold inI; simp only; omega⟩
    have hd3 : decide (at_ < ne) = false := decide_eq_false h3
    have hd4 : decide ((xs.length : Int) < at_ - ne) = false := decide_eq_false h4
    have hdf : decide (at_ < fi) = false := decide_eq_false (by omega)
    have hw2 : IntKind.i64.wrap (at_ - ne + oe) = at_ - ne + oe := IntWalk.i64_in _ ⟨by omega, by omega⟩
    have hw1 : IntKind.i64.wrap (at_ - ne) = at_ - ne := IntWalk.i64_in _ ⟨by omega, by omega⟩
    go_wp2
    go_quiet (fail)
    obtain ⟨n1, rfl⟩ : ∃ m, m = nq := ⟨_, rfl⟩
    go_upto_region 7 with (fail)
    go_quiet (fail)
    obtain ⟨n2, rfl⟩ : ∃ m, m = nq := ⟨_, rfl⟩
    go_upto_region 8 with (fail)
    clear hd3 hd4 hw1 hw2
    obtain ⟨Z, hZ⟩ : ∃ V : World, V = (X.drewN n1).drewN n2 := ⟨_, rfl⟩
    have HBZ := Aside0.mk (show Below X.heap.size X Z by rw [hZ]; exact ⟨rfl, rfl, rfl, Nat.le_refl _, fun _ _ => rfl⟩)
    change Code.wp Try.prog _ _ _ ((X.drewN n1).drewN n2)
    rw [← hZ]
    have HCZ := Aside0.mk (HC.out.below HBZ.out)
    clear hZ c0 c1 c2 c3 c4 c5 lg p0 p1 p2 p3 f0 f1 f2 f3 lX hmn
    obtain ⟨c0, c1, c2, c3, c4, c5⟩ := HCZ.out.cells
    have lg := blk_lt HCZ.out.cur
    have hlk := HCZ.out.map.look_ok (cl, at_ - ne + oe) hin
    cases ho : M (cl, at_ - ne + oe) with
    | none =>
      rw [ho] at hlk
      simp only [Option.getD_none, Option.isSome_none, pv, partV, AT.k, AT.w, AT.wd, AT.A, AT.c, AT.kids, List.length_nil] at hlk
      have HT := Aside0.mk (show takeF fi oe ne M xs cl at_ = none by rw [HTE.out, ho])
      clear ho
      go_upto_region 9 with (fail)
      obtain ⟨Y, hY⟩ : ∃ V : World, V = Z.alloc (.cells #[.int .u8 0, .int .u8 0, .int .i64 0, .slice none 0 0, .int .i64 0] 85) := ⟨_, rfl⟩
      change Code.wp Try.prog _ _ _ (Z.alloc (.cells #[.int .u8 0, .int .u8 0, .int .i64 0, .slice none 0 0, .int .i64 0] 85))
      have HBY := Aside0.mk (show Below Z.heap.size Z Y by rw [hY]; exact below_alloc (Below.refl _ _) _)
      have HPY := Aside0.mk (show Y.heap[Z.heap.size]? = some (.cells #[.int .u8 0, .int .u8 0, .int .i64 0, .slice none 0 0, .int .i64 0] 85 (0, 0)) by rw [hY]; exact heap_alloc_new _ _)
      rw [← hY]
      clear hY c0 c1 c2 c3 c4 c5 lg hlk
      have HCY := Aside0.mk (HCZ.out.below HBY.out)
      have HXY := Aside0.mk (below_step HBZ.out HBY.out)
      obtain ⟨c0, c1, c2, c3, c4, c5⟩ := HCY.out.cells
      have lg := blk_lt HCY.out.cur
      go_wp2
      go_quiet (fail)
      have HBN := Aside0.mk (show Below X.heap.size X (Y.drewN nq) from below_step HXY.out ⟨rfl, rfl, rfl, Nat.le_refl _, fun _ _ => rfl⟩)
      have hrn := (HBN.out.block _ (blk_lt HRX.out)).trans HRX.out
      have p0 := blk_cell hrn 0
      have p1 := blk_cell hrn 1
      have p2 := blk_cell hrn 2
      have p3 := blk_cell hrn 3
      have f0 := blk_frozen hrn 0
      have f1 := blk_frozen hrn 1
      have f2 := blk_frozen hrn 2
      have f3 := blk_frozen hrn 3
      have lX := blk_lt hrn
      simp at p0 p1 p2 p3
      go_wp2
      refine bodyPost_ret (results_ctt rfl _ _ W.heap.size 27 _ (0, 0) _ rfl (put4_at ((HBN.out.block _ (blk_lt HRX.out)).trans HRX.out) _ _ _ _) Try.underlying27 rfl (by kernel_rfl)) rfl ?_
      exact NONE.out _ HBN.out HT.out
    | some y =>
      obtain ⟨⟨yk, yw, yd, yA, yc, yl⟩, n⟩ := y
      have hmm := HMM.out _ _ _ ho
      rw [ho] at hlk
      simp only [Option.getD_some, Option.isSome_some, pv, partV, AT.k, AT.w, AT.wd, AT.A, AT.c, AT.kids] at hlk
      have HT := Aside0.mk (show takeF fi oe ne M xs cl at_ = some (.node yk yw yd yA yc yl, n) by rw [HTE.out, ho])
      clear ho
      go_upto_region 9 with (fail)
      obtain ⟨Y, hY⟩ : ∃ V : World, V = Z.alloc (.cells #[.int .u8 yk, .int .u8 yw, .int .i64 yd, .slice yA yl.length yc, .int .i64 n] 85) := ⟨_, rfl⟩
      change Code.wp Try.prog _ _ _ (Z.alloc (.cells #[.int .u8 yk, .int .u8 yw, .int .i64 yd, .slice yA yl.length yc, .int .i64 n] 85))
      have HBY := Aside0.mk (show Below Z.heap.size Z Y by rw [hY]; exact below_alloc (Below.refl _ _) _)
      have HPY := Aside0.mk (show Y.heap[Z.heap.size]? = some (.cells #[.int .u8 yk, .int .u8 yw, .int .i64 yd, .slice yA yl.length yc, .int .i64 n] 85 (0, 0)) by rw [hY]; exact heap_alloc_new _ _)
      rw [← hY]
      clear hY c0 c1 c2 c3 c4 c5 lg hlk
      have HCY := Aside0.mk (HCZ.out.below HBY.out)
      have HXY := Aside0.mk (below_step HBZ.out HBY.out)
      obtain ⟨c0, c1, c2, c3, c4, c5⟩ := HCY.out.cells
      have lg := blk_lt HCY.out.cur
      have y0 := blk_cell HPY.out 0
      have y1 := blk_cell HPY.out 1
      have y2 := blk_cell HPY.out 2
      have y3 := blk_cell HPY.out 3
      have y4 := blk_cell HPY.out 4
      have lY := blk_lt HPY.out
      simp at y0 y1 y2 y3 y4
      go_wp2
      go_quiet (fail)
      obtain ⟨V, hV⟩ : ∃ V : World, V = Y.drewN nq := ⟨_, rfl⟩
      have HBV := Aside0.mk (show Below Y.heap.size Y V by rw [hV]; exact ⟨rfl, rfl, rfl, Nat.le_refl _, fun _ _ => rfl⟩)
      rw [← hV]
      clear hV c0 c1 c2 c3 c4 c5 lg y0 y1 y2 y3 y4 lY
      have HCV := Aside0.mk (HCY.out.below HBV.out)
      obtain ⟨c0, c1, c2, c3, c4, c5⟩ := HCV.out.cells
      have fg := blk_frozen HCV.out.cur 5
      have lg := blk_lt HCV.out.cur
      have htk := HTK.out
      go_upto_region 12 with (fail)
      obtain ⟨V2, hV2⟩ : ∃ V2 : World, V2 = V.setCell ⟨g, 5, none⟩ (.int .i64 (tk + 1)) := ⟨_, rfl⟩
      change Code.wp Try.prog _ _ _ (V.setCell ⟨g, 5, none⟩ (.int .i64 (tk + 1)))
      have HV2 := Aside0.mk hV2
      have hgn : g ≠ W.heap.size := by have := HGW.out; omega
      have hgz : g ≠ Z.heap.size := by have := HGW.out; have := HBZ.out.size; have := HBX.out.size; omega
      have hrn : V2.heap[W.heap.size]? = some (.cells #[.int .u8 0, .int .u8 0, .int .i64 0, .slice none 0 0] 27 (0, 0)) := by rw [hV2, Below.heap_setCell _ _ _ _ (Ne.symm hgn)]; exact ((below_step HXY.out HBV.out).block _ (blk_lt HRX.out)).trans HRX.out
      have hpn : V2.heap[Z.heap.size]? = some (.cells #[.int .u8 yk, .int .u8 yw, .int .i64 yd, .slice yA yl.length yc, .int .i64 n] 85 (0, 0)) := by rw [hV2, Below.heap_setCell _ _ _ _ (Ne.symm hgz)]; exact (HBV.out.block _ (blk_lt HPY.out)).trans HPY.out
      have HRN := Aside0.mk hrn
      have HZW := Aside0.mk (show Z.heap.size ≠ W.heap.size by have := HBZ.out.size; have := blk_lt HRX.out; omega)
      rw [← hV2]
      clear hV2 c0 c1 c2 c3 c4 c5 fg lg hgn hgz
      have y0 := blk_cell hpn 0
      have y1 := blk_cell hpn 1
      have y2 := blk_cell hpn 2
      have y3 := blk_cell hpn 3
      have y4 := blk_cell hpn 4
      have lY := blk_lt hpn
      simp at y0 y1 y2 y3 y4
      have p0 := blk_cell hrn 0
      have p1 := blk_cell hrn 1
      have p2 := blk_cell hrn 2
      have p3 := blk_cell hrn 3
      have f0 := blk_frozen hrn 0
      have f1 := blk_frozen hrn 1
      have f2 := blk_frozen hrn 2
      have f3 := blk_frozen hrn 3
      have lX := blk_lt hrn
      simp at p0 p1 p2 p3
      have HS0 := Aside0.mk (show V2.drew.heap[Z.heap.size]? = some (.cells #[.int .u8 yk, .int .u8 yw, .int .i64 yd, .slice yA yl.length yc, .int .i64 n] 85 (0, 0)) from hpn)
      clear hrn hpn y0 y1 y2 y3 y4 lY
      refine wp_region_noPanic (plain_need [0, 1, 2, 3, 4, 5, 6] (fun W' => W'.heap[Z.heap.size]? = some (.cells #[.int .u8 yk, .int .u8 yw, .int .i64 yd, .slice yA yl.length yc, .int .i64 n] 85 (0, 0))) mixE ?_)
      refine wpAnyN_take (i := 0) (v := ?_) rfl (by kernel_rfl) (by kernel_rfl) (by kernel_rfl) (by kernel_rfl) (fun _ _ _ h => h) (.inl ⟨by rfl, ?_⟩) HS0.out ?_
      rotate_left
      · (intro W' hW'; have s0 := blk_cell hW' 0; have s1 := blk_cell hW' 1; have s2 := blk_cell hW' 2; have s3 := blk_cell hW' 3; have s4 := blk_cell hW' 4; have s5 := blk_lt hW'; simp at s0 s1 s2 s3 s4; go_simp; try rfl)
      simp only [Act.put, List.setIfInBounds_toArray, List.set_cons_zero, List.set_cons_succ]
      refine wpAnyN_take (i := 1) (v := ?_) rfl (by kernel_rfl) (by kernel_rfl) (by kernel_rfl) (by kernel_rfl) (fun _ _ _ h => h) (.inl ⟨by rfl, ?_⟩) HS0.out ?_
      rotate_left
      · (intro W' hW'; have s0 := blk_cell hW' 0; have s1 := blk_cell hW' 1; have s2 := blk_cell hW' 2; have s3 := blk_cell hW' 3; have s4 := blk_cell hW' 4; have s5 := blk_lt hW'; simp at s0 s1 s2 s3 s4; go_simp; try rfl)
      simp only [Act.put, List.setIfInBounds_toArray, List.set_cons_zero, List.set_cons_succ]
      refine wpAnyN_take (i := 2) (v := ?_) rfl (by kernel_rfl) (by kernel_rfl) (by kernel_rfl) (by kernel_rfl) (fun _ _ _ h => h) (.inl ⟨by rfl, ?_⟩) HS0.out ?_
      rotate_left
      · (intro W' hW'; have s0 := blk_cell hW' 0; have s1 := blk_cell hW' 1; have s2 := blk_cell hW' 2; have s3 := blk_cell hW' 3; have s4 := blk_cell hW' 4; have s5 := blk_lt hW'; simp at s0 s1 s2 s3 s4; go_simp; try rfl)
      simp only [Act.put, List.setIfInBounds_toArray, List.set_cons_zero, List.set_cons_succ]
      refine wpAnyN_take (i := 3) (v := ?_) rfl (by kernel_rfl) (by kernel_rfl) (by kernel_rfl) (by kernel_rfl) (fun _ _ _ h => h) (.inl ⟨by rfl, ?_⟩) HS0.out ?_
      rotate_left
      · (intro W' hW'; have s0 := blk_cell hW' 0; have s1 := blk_cell hW' 1; have s2 := blk_cell hW' 2; have s3 := blk_cell hW' 3; have s4 := blk_cell hW' 4; have s5 := blk_lt hW'; simp at s0 s1 s2 s3 s4; go_simp; try rfl)
      simp only [Act.put, List.setIfInBounds_toArray, List.set_cons_zero, List.set_cons_succ]
      refine wpAnyN_one (i := 4) rfl (by kernel_rfl) (fun K hK => ?_)
      go_simp
      refine hK.out _ _ (fun _ => (put4_other HZW.out _ _ _ _).trans HS0.out) (fun _ => ?_)
      clear hK K
      refine wpAnyN_take (i := 5) (v := ?_) rfl (by kernel_rfl) (by kernel_rfl) (by kernel_rfl) (by kernel_rfl) (fun _ _ _ h => h) (.inl ⟨by rfl, ?_⟩) ((put4_other HZW.out _ _ _ _).trans HS0.out) ?_
      rotate_left
      · (intro W' hW'; have s0 := blk_cell hW' 0; have s1 := blk_cell hW' 1; have s2 := blk_cell hW' 2; have s3 := blk_cell hW' 3; have s4 := blk_cell hW' 4; have s5 := blk_lt hW'; simp at s0 s1 s2 s3 s4; go_simp; try rfl)
      simp only [Act.put, List.setIfInBounds_toArray, List.set_cons_zero, List.set_cons_succ]
      refine wpAnyN_take (i := 6) (v := ?_) rfl (by kernel_rfl) (by kernel_rfl) (by kernel_rfl) (by kernel_rfl) (fun _ _ _ h => h) (.inl ⟨by rfl, ?_⟩) ((put4_other HZW.out _ _ _ _).trans HS0.out) ?_
      rotate_left
      · (intro W' hW'; have s0 := blk_cell hW' 0; have s1 := blk_cell hW' 1; have s2 := blk_cell hW' 2; have s3 := blk_cell hW' 3; have s4 := blk_cell hW' 4; have s5 := blk_lt hW'; simp at s0 s1 s2 s3 s4; go_simp; try rfl)
      simp only [Act.put, List.setIfInBounds_toArray, List.set_cons_zero, List.set_cons_succ]
      refine wpAnyN_done (by kernel_rfl) (NoPanic.normal ?_) _
      go_wp2
      refine bodyPost_ret (results_ctt rfl _ _ W.heap.size 27 _ (0, 0) _ rfl (put4_at (w := V2.drew) HRN.out _ _ _ _) Try.underlying27 rfl (by kernel_rfl)) rfl ?_
      have hfin := SOME.out V (.node yk yw yd yA yc yl) n (below_step HXY.out HBV.out) HT.out
      rw [← HV2.out] at hfin
      exact hfin
  have HTE := Aside0.mk (show takeF fi oe ne M xs cl at_ = match M (cl, at_) with | none => none | some (T, n) => if fi ≤ xs.getD (at_ + n).toNat 0 then none else some (T, n) by unfold takeF; rw [if_neg h1, if_neg h2])
  have hin : inS (cl, at_) := ⟨hcl, hat⟩
  have hdf : decide (at_ < fi) = true := decide_eq_true (by omega)
  go_upto_region 8 with (fail)
  obtain ⟨Z, hZ⟩ : ∃ V : World, V = X := ⟨_, rfl⟩
  have HBZ := Aside0.mk (show Below X.heap.size X Z by rw [hZ]; exact ⟨rfl, rfl, rfl, Nat.le_refl _, fun _ _ => rfl⟩)
  change Code.wp Try.prog _ _ _ (X)
  rw [← hZ]
  have HCZ := Aside0.mk (HC.out.below HBZ.out)
  clear hZ c0 c1 c2 c3 c4 c5 lg p0 p1 p2 p3 f0 f1 f2 f3 lX hmn
  obtain ⟨c0, c1, c2, c3, c4, c5⟩ := HCZ.out.cells
  have lg := blk_lt HCZ.out.cur
  have hlk := HCZ.out.map.look_ok (cl, at_) hin
  cases ho : M (cl, at_) with
  | none =>
    rw [ho] at hlk
    simp only [Option.getD_none, Option.isSome_none, pv, partV, AT.k, AT.w, AT.wd, AT.A, AT.c, AT.kids, List.length_nil] at hlk
    have HT := Aside0.mk (show takeF fi oe ne M xs cl at_ = none by rw [HTE.out, ho])
    clear ho
    go_upto_region 9 with (fail)
    obtain ⟨Y, hY⟩ : ∃ V : World, V = Z.alloc (.cells #[.int .u8 0, .int .u8 0, .int .i64 0, .slice none 0 0, .int .i64 0] 85) := ⟨_, rfl⟩
    change Code.wp Try.prog _ _ _ (Z.alloc (.cells #[.int .u8 0, .int .u8 0, .int .i64 0, .slice none 0 0, .int .i64 0] 85))
    have HBY := Aside0.mk (show Below Z.heap.size Z Y by rw [hY]; exact below_alloc (Below.refl _ _) _)
    have HPY := Aside0.mk (show Y.heap[Z.heap.size]? = some (.cells #[.int .u8 0, .int .u8 0, .int .i64 0, .slice none 0 0, .int .i64 0] 85 (0, 0)) by rw [hY]; exact heap_alloc_new _ _)
    rw [← hY]
    clear hY c0 c1 c2 c3 c4 c5 lg hlk
    have HCY := Aside0.mk (HCZ.out.below HBY.out)
    have HXY := Aside0.mk (below_step HBZ.out HBY.out)
    obtain ⟨c0, c1, c2, c3, c4, c5⟩ := HCY.out.cells
    have lg := blk_lt HCY.out.cur
    go_wp2
    go_quiet (fail)
    have HBN := Aside0.mk (show Below X.heap.size X (Y.drewN nq) from below_step HXY.out ⟨rfl, rfl, rfl, Nat.le_refl _, fun _ _ => rfl⟩)
    have hrn := (HBN.out.block _ (blk_lt HRX.out)).trans HRX.out
    have p0 := blk_cell hrn 0
    have p1 := blk_cell hrn 1
    have p2 := blk_cell hrn 2
    have p3 := blk_cell hrn 3
    have f0 := blk_frozen hrn 0
    have f1 := blk_frozen hrn 1
    have f2 := blk_frozen hrn 2
    have f3 := blk_frozen hrn 3
    have lX := blk_lt hrn
    simp at p0 p1 p2 p3
    go_wp2
    refine bodyPost_ret (results_ctt rfl _ _ W.heap.size 27 _ (0, 0) _ rfl (put4_at ((HBN.out.block _ (blk_lt HRX.out)).trans HRX.out) _ _ _ _) Try.underlying27 rfl (by kernel_rfl)) rfl ?_
    exact NONE.out _ HBN.out HT.out
  | some y =>
    obtain ⟨⟨yk, yw, yd, yA, yc, yl⟩, n⟩ := y
    have hmm := HMM.out _ _ _ ho
    rw [ho] at hlk
    simp only [Option.getD_some, Option.isSome_some, pv, partV, AT.k, AT.w, AT.wd, AT.A, AT.c, AT.kids] at hlk
    have HT := Aside0.mk (show takeF fi oe ne M xs cl at_ = if fi ≤ xs.getD (at_ + n).toNat 0 then none else some (.node yk yw yd yA yc yl, n) by rw [HTE.out, ho])
    clear ho
    go_upto_region 9 with (fail)
    obtain ⟨Y, hY⟩ : ∃ V : World, V = Z.alloc (.cells #[.int .u8 yk, .int .u8 yw, .int .i64 yd, .slice yA yl.length yc, .int .i64 n] 85) := ⟨_, rfl⟩
    change Code.wp Try.prog _ _ _ (Z.alloc (.cells #[.int .u8 yk, .int .u8 yw, .int .i64 yd, .slice yA yl.length yc, .int .i64 n] 85))
    have HBY := Aside0.mk (show Below Z.heap.size Z Y by rw [hY]; exact below_alloc (Below.refl _ _) _)
    have HPY := Aside0.mk (show Y.heap[Z.heap.size]? = some (.cells #[.int .u8 yk, .int .u8 yw, .int .i64 yd, .slice yA yl.length yc, .int .i64 n] 85 (0, 0)) by rw [hY]; exact heap_alloc_new _ _)
    rw [← hY]
    clear hY c0 c1 c2 c3 c4 c5 lg hlk
    have HCY := Aside0.mk (HCZ.out.below HBY.out)
    have HXY := Aside0.mk (below_step HBZ.out HBY.out)
    obtain ⟨c0, c1, c2, c3, c4, c5⟩ := HCY.out.cells
    have lg := blk_lt HCY.out.cur
    have HTX := HT
    obtain ⟨x, hx⟩ : ∃ x, x = xs.getD (at_ + n).toNat 0 := ⟨_, rfl⟩
    obtain ⟨q0, q1⟩ := HCY.out.at_ (at_ + n).toNat (by have := hmm.2.2; simp only at this; omega)
    rw [← hx] at q0 HTX
    have HHX := Aside0.mk hx
    clear hx q1 HT
    have hia : 0 ≤ at_ + n := by have := hmm.1; omega
    have hib : at_ + n < (xs.length : Int) := hmm.2.2
    have hw1 : IntKind.i64.wrap (at_ + n) = at_ + n := IntWalk.i64_in _ ⟨by omega, by omega⟩
    clear hmm
    by_cases h5 : fi ≤ x
    · have HT := Aside0.mk (show takeF fi oe ne M xs cl at_ = none by rw [HTX.out, if_pos h5])
      have hd5 : decide (fi ≤ x) = true := decide_eq_true h5
      have y4 := blk_cell HPY.out 4
      have lY := blk_lt HPY.out
      simp at y4
      go_wp2
      go_quiet (fail)
      have HBN := Aside0.mk (show Below X.heap.size X (Y.drewN nq) from below_step HXY.out ⟨rfl, rfl, rfl, Nat.le_refl _, fun _ _ => rfl⟩)
      have hrn := (HBN.out.block _ (blk_lt HRX.out)).trans HRX.out
      have p0 := blk_cell hrn 0
      have p1 := blk_cell hrn 1
      have p2 := blk_cell hrn 2
      have p3 := blk_cell hrn 3
      have f0 := blk_frozen hrn 0
      have f1 := blk_frozen hrn 1
      have f2 := blk_frozen hrn 2
      have f3 := blk_frozen hrn 3
      have lX := blk_lt hrn
      simp at p0 p1 p2 p3
      go_wp2
      refine bodyPost_ret (results_ctt rfl _ _ W.heap.size 27 _ (0, 0) _ rfl (put4_at ((HBN.out.block _ (blk_lt HRX.out)).trans HRX.out) _ _ _ _) Try.underlying27 rfl (by kernel_rfl)) rfl ?_
      exact NONE.out _ HBN.out HT.out
    · have HT := Aside0.mk (show takeF fi oe ne M xs cl at_ = some (.node yk yw yd yA yc yl, n) by rw [HTX.out, if_neg h5])
      have hd5 : decide (fi ≤ x) = false := decide_eq_false h5
      have y0 := blk_cell HPY.out 0
      have y1 := blk_cell HPY.out 1
      have y2 := blk_cell HPY.out 2
      have y3 := blk_cell HPY.out 3
      have y4 := blk_cell HPY.out 4
      have lY := blk_lt HPY.out
      simp at y0 y1 y2 y3 y4
      go_wp2
      go_quiet (fail)
      obtain ⟨V, hV⟩ : ∃ V : World, V = Y.drewN nq := ⟨_, rfl⟩
      have HBV := Aside0.mk (show Below Y.heap.size Y V by rw [hV]; exact ⟨rfl, rfl, rfl, Nat.le_refl _, fun _ _ => rfl⟩)
      rw [← hV]
      clear hV c0 c1 c2 c3 c4 c5 lg y0 y1 y2 y3 y4 lY
      have HCV := Aside0.mk (HCY.out.below HBV.out)
      obtain ⟨c0, c1, c2, c3, c4, c5⟩ := HCV.out.cells
      have fg := blk_frozen HCV.out.cur 5
      have lg := blk_lt HCV.out.cur
      have htk := HTK.out
      go_upto_region 12 with (fail)
      obtain ⟨V2, hV2⟩ : ∃ V2 : World, V2 = V.setCell ⟨g, 5, none⟩ (.int .i64 (tk + 1)) := ⟨_, rfl⟩
      change Code.wp Try.prog _ _ _ (V.setCell ⟨g, 5, none⟩ (.int .i64 (tk + 1)))
      have HV2 := Aside0.mk hV2
      have hgn : g ≠ W.heap.size := by have := HGW.out; omega
      have hgz : g ≠ Z.heap.size := by have := HGW.out; have := HBZ.out.size; have := HBX.out.size; omega
      have hrn : V2.heap[W.heap.size]? = some (.cells #[.int .u8 0, .int .u8 0, .int .i64 0, .slice none 0 0] 27 (0, 0)) := by rw [hV2, Below.heap_setCell _ _ _ _ (Ne.symm hgn)]; exact ((below_step HXY.out HBV.out).block _ (blk_lt HRX.out)).trans HRX.out
      have hpn : V2.heap[Z.heap.size]? = some (.cells #[.int .u8 yk, .int .u8 yw, .int .i64 yd, .slice yA yl.length yc, .int .i64 n] 85 (0, 0)) := by rw [hV2, Below.heap_setCell _ _ _ _ (Ne.symm hgz)]; exact (HBV.out.block _ (blk_lt HPY.out)).trans HPY.out
      have HRN := Aside0.mk hrn
      have HZW := Aside0.mk (show Z.heap.size ≠ W.heap.size by have := HBZ.out.size; have := blk_lt HRX.out; omega)
      rw [← hV2]
      clear hV2 c0 c1 c2 c3 c4 c5 fg lg hgn hgz
      have y0 := blk_cell hpn 0
      have y1 := blk_cell hpn 1
      have y2 := blk_cell hpn 2
      have y3 := blk_cell hpn 3
      have y4 := blk_cell hpn 4
      have lY := blk_lt hpn
      simp at y0 y1 y2 y3 y4
      have p0 := blk_cell hrn 0
      have p1 := blk_cell hrn 1
      have p2 := blk_cell hrn 2
      have p3 := blk_cell hrn 3
      have f0 := blk_frozen hrn 0
      have f1 := blk_frozen hrn 1
      have f2 := blk_frozen hrn 2
      have f3 := blk_frozen hrn 3
      have lX := blk_lt hrn
      simp at p0 p1 p2 p3
      have HS0 := Aside0.mk (show V2.drew.heap[Z.heap.size]? = some (.cells #[.int .u8 yk, .int .u8 yw, .int .i64 yd, .slice yA yl.length yc, .int .i64 n] 85 (0, 0)) from hpn)
      clear hrn hpn y0 y1 y2 y3 y4 lY
      refine wp_region_noPanic (plain_need [0, 1, 2, 3, 4, 5, 6] (fun W' => W'.heap[Z.heap.size]? = some (.cells #[.int .u8 yk, .int .u8 yw, .int .i64 yd, .slice yA yl.length yc, .int .i64 n] 85 (0, 0))) mixE ?_)
      refine wpAnyN_take (i := 0) (v := ?_) rfl (by kernel_rfl) (by kernel_rfl) (by kernel_rfl) (by kernel_rfl) (fun _ _ _ h => h) (.inl ⟨by rfl, ?_⟩) HS0.out ?_
      rotate_left
      · (intro W' hW'; have s0 := blk_cell hW' 0; have s1 := blk_cell hW' 1; have s2 := blk_cell hW' 2; have s3 := blk_cell hW' 3; have s4 := blk_cell hW' 4; have s5 := blk_lt hW'; simp at s0 s1 s2 s3 s4; go_simp; try rfl)
      simp only [Act.put, List.setIfInBounds_toArray, List.set_cons_zero, List.set_cons_succ]
      refine wpAnyN_take (i := 1) (v := ?_) rfl (by kernel_rfl) (by kernel_rfl) (by kernel_rfl) (by kernel_rfl) (fun _ _ _ h => h) (.inl ⟨by rfl, ?_⟩) HS0.out ?_
      rotate_left
      · (intro W' hW'; have s0 := blk_cell hW' 0; have s1 := blk_cell hW' 1; have s2 := blk_cell hW' 2; have s3 := blk_cell hW' 3; have s4 := blk_cell hW' 4; have s5 := blk_lt hW'; simp at s0 s1 s2 s3 s4; go_simp; try rfl)
      simp only [Act.put, List.setIfInBounds_toArray, List.set_cons_zero, List.set_cons_succ]
      refine wpAnyN_take (i := 2) (v := ?_) rfl (by kernel_rfl) (by kernel_rfl) (by kernel_rfl) (by kernel_rfl) (fun _ _ _ h => h) (.inl ⟨by rfl, ?_⟩) HS0.out ?_
      rotate_left
      · (intro W' hW'; have s0 := blk_cell hW' 0; have s1 := blk_cell hW' 1; have s2 := blk_cell hW' 2; have s3 := blk_cell hW' 3; have s4 := blk_cell hW' 4; have s5 := blk_lt hW'; simp at s0 s1 s2 s3 s4; go_simp; try rfl)
      simp only [Act.put, List.setIfInBounds_toArray, List.set_cons_zero, List.set_cons_succ]
      refine wpAnyN_take (i := 3) (v := ?_) rfl (by kernel_rfl) (by kernel_rfl) (by kernel_rfl) (by kernel_rfl) (fun _ _ _ h => h) (.inl ⟨by rfl, ?_⟩) HS0.out ?_
      rotate_left
      · (intro W' hW'; have s0 := blk_cell hW' 0; have s1 := blk_cell hW' 1; have s2 := blk_cell hW' 2; have s3 := blk_cell hW' 3; have s4 := blk_cell hW' 4; have s5 := blk_lt hW'; simp at s0 s1 s2 s3 s4; go_simp; try rfl)
      simp only [Act.put, List.setIfInBounds_toArray, List.set_cons_zero, List.set_cons_succ]
      refine wpAnyN_one (i := 4) rfl (by kernel_rfl) (fun K hK => ?_)
      go_simp
      refine hK.out _ _ (fun _ => (put4_other HZW.out _ _ _ _).trans HS0.out) (fun _ => ?_)
      clear hK K
      refine wpAnyN_take (i := 5) (v := ?_) rfl (by kernel_rfl) (by kernel_rfl) (by kernel_rfl) (by kernel_rfl) (fun _ _ _ h => h) (.inl ⟨by rfl, ?_⟩) ((put4_other HZW.out _ _ _ _).trans HS0.out) ?_
      rotate_left
      · (intro W' hW'; have s0 := blk_cell hW' 0; have s1 := blk_cell hW' 1; have s2 := blk_cell hW' 2; have s3 := blk_cell hW' 3; have s4 := blk_cell hW' 4; have s5 := blk_lt hW'; simp at s0 s1 s2 s3 s4; go_simp; try rfl)
      simp only [Act.put, List.setIfInBounds_toArray, List.set_cons_zero, List.set_cons_succ]
      refine wpAnyN_take (i := 6) (v := ?_) rfl (by kernel_rfl) (by kernel_rfl) (by kernel_rfl) (by kernel_rfl) (fun _ _ _ h => h) (.inl ⟨by rfl, ?_⟩) ((put4_other HZW.out _ _ _ _).trans HS0.out) ?_
      rotate_left
      · (intro W' hW'; have s0 := blk_cell hW' 0; have s1 := blk_cell hW' 1; have s2 := blk_cell hW' 2; have s3 := blk_cell hW' 3; have s4 := blk_cell hW' 4; have s5 := blk_lt hW'; simp at s0 s1 s2 s3 s4; go_simp; try rfl)
      simp only [Act.put, List.setIfInBounds_toArray, List.set_cons_zero, List.set_cons_succ]
      refine wpAnyN_done (by kernel_rfl) (NoPanic.normal ?_) _
      go_wp2
      refine bodyPost_ret (results_ctt rfl _ _ W.heap.size 27 _ (0, 0) _ rfl (put4_at (w := V2.drew) HRN.out _ _ _ _) Try.underlying27 rfl (by kernel_rfl)) rfl ?_
      have hfin := SOME.out V (.node yk yw yd yA yc yl) n (below_step HXY.out HBV.out) HT.out
      rw [← HV2.out] at hfin
      exact hfin
end Go.Proofs.Ytghbfjmmjfklfaa.H
