/- Texts of this claim, merged. -/
import Derived.Test.YtghbfjmmjfklfaaZ8
import Derived.WalkSpells
set_option linter.unusedVariables false
set_option linter.unusedSimpArgs false
namespace Go.Proofs.Ytghbfjmmjfklfaa.H
open Go.RowKit Go.Proofs.YtghbfjmmjfklfaaW.PrintWords Go.Proofs.YtghbfjmmjfklfaaW.PrintLast Go.Proofs.YtghbfjmmjfklfaaW.PrintMore
abbrev put4 (w : World) (q : Nat) (u0 u1 u2 u3 : Value) : World := (((w.setCell ⟨q, 0, none⟩ u0).setCell ⟨q, 1, none⟩ u1).setCell ⟨q, 2, none⟩ u2).setCell ⟨q, 3, none⟩ u3
theorem zbY {w : World} {q : Nat} {t : TypeId} {v0 v1 v2 v3 : Value} (h : w.heap[q]? = some (.cells #[v0, v1, v2, v3] t (0, 0))) (u0 u1 u2 u3 : Value) : (put4 w q u0 u1 u2 u3).heap[q]? = some (.cells #[u0, u1, u2, u3] t (0, 0)) := by
 simpa using zbs (zbs (zbs (zbs h 0 u0) 1 u1) 2 u2) 3 u3
theorem zbD {w : World} {q p : Nat} (hp : p ≠ q) (u0 u1 u2 u3 : Value) : (put4 w q u0 u1 u2 u3).heap[p]? = w.heap[p]? := by
 rw [Below.heap_setCell _ _ _ _ hp, Below.heap_setCell _ _ _ _ hp, Below.heap_setCell _ _ _ _ hp, Below.heap_setCell _ _ _ _ hp]
theorem put4_below {n : Nat} {w0 w : World} {q : Nat} (h : Below n w0 w) (hq : n ≤ q) (u0 u1 u2 u3 : Value) : Below n w0 (put4 w q u0 u1 u2 u3) := (((h.setCell hq _).setCell hq _).setCell hq _).setCell hq _
theorem grown_set (W : World) (b i : Nat) (v : Value) : W.grownBy (W.setCell ⟨b, i, none⟩ v) (some b) :=
 ⟨by simp [World.setCell], by simp [World.setCell], by simp [World.setCell], by simp, fun q hq hf => Below.heap_setCell _ _ _ _ (show q ≠ b from fun e => hf (e ▸ rfl))⟩
theorem CN.tick {w0 w v : World} {n0 g b r cap : Nat} {fi oe ne tk tk' : Int} {nm : Nat} {M : PMap} {xs : List Int} (h : CN w0 w n0 g b r cap fi oe ne tk nm M xs) (hg : w.grownBy v (some g)) (hc : v.heap[g]? = some (curO fi oe ne b (some ⟨r, 0, none⟩) xs.length cap tk')) : CN w0 v n0 g b r cap fi oe ne tk' nm M xs :=
 ⟨h.low.grown hg (Nat.le_of_lt (Nat.lt_of_le_of_lt h.n1.1 (zaM h.cur))) (fun k hk => by injection hk with hk; exact hk ▸ h.n1.1), hc, h.map.keep (hg.block _ h.map.lt (fun e => h.n2.1 (Option.some.inj e).symm)), Kd.R_grown h.row hg (fun q hq e => hq.2.2 (Option.some.inj e)), h.n1, h.n2⟩
def takeF (fi oe ne : Int) (M : PMap) (xs : List Int) (cl at_ : Int) : Option (AT × Int) :=
 if at_ < 0 then none else
 if fi ≤ at_ then (if at_ < ne ∨ (xs.length : Int) < at_ - ne then none else M (cl, at_ - ne + oe)) else
 match M (cl, at_) with
 | none => none
 | some (T, n) => if fi ≤ xs.getD (at_ + n).toNat 0 then none else some (T, n)
theorem map_nil_ne (bm : Nat) (w : World) : (binOp .eql 74 (.map (some bm)) (.map none)).run Try.prog w = .ok (.bool false) w := run_eql_map_nil w _ _ _ (some bm) Try.underlying74
abbrev zNode : Value := .agg #[.int .u8 0, .int .u8 0, .int .i64 0, .slice none 0 0]
def TakePost (w0 W : World) (n0 g b r cap : Nat) (fi oe ne tk : Int) (nm : Nat) (M : PMap) (xs : List Int) (o : Option (AT × Int)) (e : Ending) (W' : World) : Prop :=
 W.grownBy W' (some g) ∧ ((o = none ∧ e = .returned (.tuple #[zNode, .int .i64 0, .bool false]) ∧ CN w0 W' n0 g b r cap fi oe ne tk nm M xs) ∨ ∃ T n, o = some (T, n) ∧ e = .returned (.tuple #[T.val, .int .i64 n, .bool true]) ∧ CN w0 W' n0 g b r cap fi oe ne (tk + 1) nm M xs)
theorem TakePost.drew {w0 W : World} {n0 g b r cap : Nat} {fi oe ne tk : Int} {nm : Nat} {M : PMap} {xs : List Int} {o : Option (AT × Int)} {e : Ending} {W' : World} (h : TakePost w0 W n0 g b r cap fi oe ne tk nm M xs o e W') : TakePost w0 W n0 g b r cap fi oe ne tk nm M xs o e W'.drew := by
 obtain ⟨h1, h2⟩ := h; have hb : Below W'.heap.size W' W'.drew := (Below.refl _ _).drew; refine ⟨World.grownBy.trans h1 (za8 hb _), ?_⟩
 rcases h2 with ⟨a, b, c⟩ | ⟨T, n, a, b, c⟩
 ·exact .inl ⟨a, b, c.below hb⟩
 ·exact .inr ⟨T, n, a, b, c.below hb⟩
set_option maxHeartbeats 8000000 in
set_option maxRecDepth 100000 in
theorem ctake_calls {w0 W : World} {n0 g b r cap : Nat} {fi oe ne tk : Int} {nm : Nat} {M : PMap} {xs : List Int} (h : CN w0 W n0 g b r cap fi oe ne tk nm M xs) (hM : ∀ s T n, M s = some (T, n) → 0 ≤ n ∧ 0 ≤ s.2 ∧ s.2 + n < xs.length) (hx : xs.length ≤ 1000001) (hfi : 0 ≤ fi ∧ fi ≤ ne ∧ ne ≤ 1048576 ∧ 0 ≤ oe ∧ oe ≤ 1000000) (htk : 0 ≤ tk ∧ tk ≤ 1000000) (cl at_ : Int) (hcl : 0 ≤ cl ∧ cl ≤ 255) (hat : inI at_) :
  Calls Try.prog 14 #[.pointer (some ⟨g, 0, none⟩), .int .u8 cl, .int .i64 at_] W fun e W' => TakePost w0 W n0 g b r cap fi oe ne tk nm M xs (takeF fi oe ne M xs cl at_) e W' := by
 obtain ⟨X, hX⟩ : ∃ V, V = W.alloc (.cells #[.int .u8 0, .int .u8 0, .int .i64 0, .slice none 0 0] 27) := ⟨_, rfl⟩; have HBX := zaa.mk (show Below W.heap.size W X by rw [hX]; exact zad (Below.refl _ _) _)
 have HRX := zaa.mk (show X.heap[W.heap.size]? = some (.cells #[.int .u8 0, .int .u8 0, .int .i64 0, .slice none 0 0] 27 (0, 0)) by rw [hX]; exact heap_alloc_new _ _)
 have HC := zaa.mk (h.below HBX.out); have HMM := zaa.mk hM; have HH := zaa.mk h; have HTK := zaa.mk htk; have HGW := zaa.mk (zaM h.cur); have hu := Try.underlying27; have huc := Try.underlying77; have hup := Try.underlying85; have hmn := map_nil_ne b X; unfold inI at hat
 clear h hM htk; go_enter Try.func14, Try.ntmps14
 go_upto_region 1 with (fail)
 change Code.wp Try.prog _ _ _ (W.alloc (.cells #[.int .u8 0, .int .u8 0, .int .i64 0, .slice none 0 0] 27))
 rw [← hX]; clear hX; have p0 := zae HRX.out 0; have p1 := zae HRX.out 1; have p2 := zae HRX.out 2; have p3 := zae HRX.out 3; have f0 := zab HRX.out 0; have f1 := zab HRX.out 1; have f2 := zab HRX.out 2; have f3 := zab HRX.out 3; have lX := zaM HRX.out; simp at p0 p1 p2 p3; obtain ⟨c0, c1, c2, c3, c4, c5⟩ := HC.out.cells; have lg := zaM HC.out.cur; have NONE : ∀ Z, Below X.heap.size X Z → takeF fi oe ne M xs cl at_ = none → TakePost w0 W n0 g b r cap fi oe ne tk nm M xs (takeF fi oe ne M xs cl at_) (.returned (.tuple #[zNode, .int .i64 0, .bool false])) (put4 Z W.heap.size (.int .u8 0) (.int .u8 0) (.int .i64 0) (.slice none 0 0)) := by
  intro Z hZ ht
  have hgn : g ≠ W.heap.size := by have := HGW.out; omega
  have hb1 := put4_below (zan HBX.out hZ) (Nat.le_refl _) (.int .u8 0) (.int .u8 0) (.int .i64 0) (.slice none 0 0); exact ⟨za8 hb1 _, .inl ⟨ht, rfl, HH.out.below hb1⟩⟩
 have NONE := zaa.mk NONE; have SOME : ∀ Y T n, Below X.heap.size X Y → takeF fi oe ne M xs cl at_ = some (T, n) → TakePost w0 W n0 g b r cap fi oe ne tk nm M xs (takeF fi oe ne M xs cl at_) (.returned (.tuple #[T.val, .int .i64 n, .bool true])) (put4 (Y.setCell ⟨g, 5, none⟩ (.int .i64 (tk + 1))).drew W.heap.size (.int .u8 T.k) (.int .u8 T.w) (.int .i64 T.wd) (.slice T.A T.kids.length T.c)) := by
  intro Y T n hY ht
  have hgn : g ≠ W.heap.size := by have := HGW.out; omega
  have hb0 := zan HBX.out hY; have hg1 : W.grownBy (Y.setCell ⟨g, 5, none⟩ (.int .i64 (tk + 1))).drew (some g) := World.grownBy.trans (World.grownBy.trans (za8 hb0 _) (grown_set _ _ _ _)) (za8 (Below.refl _ _).drew _); have hb2 : Below W.heap.size (Y.setCell ⟨g, 5, none⟩ (.int .i64 (tk + 1))).drew (put4 (Y.setCell ⟨g, 5, none⟩ (.int .i64 (tk + 1))).drew W.heap.size (.int .u8 T.k) (.int .u8 T.w) (.int .i64 T.wd) (.slice T.A T.kids.length T.c)) := put4_below (Below.refl _ _) (Nat.le_refl _) _ _ _ _; have hg2 : W.grownBy (put4 (Y.setCell ⟨g, 5, none⟩ (.int .i64 (tk + 1))).drew W.heap.size (.int .u8 T.k) (.int .u8 T.w) (.int .i64 T.wd) (.slice T.A T.kids.length T.c)) (some g) := ⟨hb2.os.trans hg1.os, hb2.tape.trans hg1.tape, hb2.output.trans hg1.output, Nat.le_trans hg1.size hb2.size, fun q hq hne => (hb2.block q hq).trans (hg1.block q hq hne)⟩
  refine ⟨hg2, .inr ⟨T, n, ht, rfl, HH.out.tick hg2 ?_⟩⟩
  rw [hb2.block g HGW.out]; have hbs := zbs (zaU HH.out.cur hb0) 5 (.int .i64 (tk + 1)); simp at hbs; exact hbs
 have SOME := zaa.mk SOME; clear HH; by_cases h1 : at_ < 0
 ·have HT := zaa.mk (show takeF fi oe ne M xs cl at_ = none by unfold takeF; rw [if_pos h1])
  go_wp2
  refine bodyPost_ret (zbr rfl _ _ W.heap.size 27 _ (0, 0) _ rfl (zbY HRX.out _ _ _ _) Try.underlying27 rfl (by kernel_rfl)) rfl ?_
  exact NONE.out X (Below.refl _ _) HT.out
 by_cases h2 : fi ≤ at_
 ·by_cases h3 : at_ < ne
  ·have HT := zaa.mk (show takeF fi oe ne M xs cl at_ = none by unfold takeF; rw [if_neg h1, if_pos h2, if_pos (.inl h3)])
   go_wp2
   go_quiet (fail)
   have HBN := zaa.mk (show Below X.heap.size X (X.drewN nq) from ⟨rfl, rfl, rfl, Nat.le_refl _, fun _ _ => rfl⟩)
   go_wp2
   refine bodyPost_ret (zbr rfl _ _ W.heap.size 27 _ (0, 0) _ rfl (zbY ((HBN.out.block _ lX).trans HRX.out) _ _ _ _) Try.underlying27 rfl (by kernel_rfl)) rfl ?_
   exact NONE.out _ HBN.out HT.out
  by_cases h4 : (xs.length : Int) < at_ - ne
  ·have hd3 : decide (at_ < ne) = false := decide_eq_false h3
   have hd4 : decide ((xs.length : Int) < at_ - ne) = true := decide_eq_true h4; have hw1 : IntKind.i64.wrap (at_ - ne) = at_ - ne := IntWalk.i64_in _ ⟨by omega, by omega⟩
   have HT := zaa.mk (show takeF fi oe ne M xs cl at_ = none by unfold takeF; rw [if_neg h1, if_pos h2, if_pos (.inr h4)])
   go_wp2
   go_quiet (fail)
   have HBN := zaa.mk (show Below X.heap.size X (X.drewN nq) from ⟨rfl, rfl, rfl, Nat.le_refl _, fun _ _ => rfl⟩)
   go_wp2
   refine bodyPost_ret (zbr rfl _ _ W.heap.size 27 _ (0, 0) _ rfl (zbY ((HBN.out.block _ lX).trans HRX.out) _ _ _ _) Try.underlying27 rfl (by kernel_rfl)) rfl ?_
   exact NONE.out _ HBN.out HT.out
  have HTE := zaa.mk (show takeF fi oe ne M xs cl at_ = M (cl, at_ - ne + oe) by unfold takeF; rw [if_neg h1, if_pos h2, if_neg (by omega)])
  have hin : inS (cl, at_ - ne + oe) := ⟨hcl, by unfold inI; simp only; omega⟩
  have hd3 : decide (at_ < ne) = false := decide_eq_false h3; have hd4 : decide ((xs.length : Int) < at_ - ne) = false := decide_eq_false h4; have hdf : decide (at_ < fi) = false := decide_eq_false (by omega)
  have hw2 : IntKind.i64.wrap (at_ - ne + oe) = at_ - ne + oe := IntWalk.i64_in _ ⟨by omega, by omega⟩
  have hw1 : IntKind.i64.wrap (at_ - ne) = at_ - ne := IntWalk.i64_in _ ⟨by omega, by omega⟩
  go_wp2
  go_quiet (fail)
  obtain ⟨n1, rfl⟩ : ∃ m, m = nq := ⟨_, rfl⟩; go_upto_region 7 with (fail)
  go_quiet (fail)
  obtain ⟨n2, rfl⟩ : ∃ m, m = nq := ⟨_, rfl⟩; go_upto_region 8 with (fail)
  clear hd3 hd4 hw1 hw2; obtain ⟨Z, hZ⟩ : ∃ V : World, V = (X.drewN n1).drewN n2 := ⟨_, rfl⟩; have HBZ := zaa.mk (show Below X.heap.size X Z by rw [hZ]; exact ⟨rfl, rfl, rfl, Nat.le_refl _, fun _ _ => rfl⟩)
  change Code.wp Try.prog _ _ _ ((X.drewN n1).drewN n2)
  rw [← hZ]; have HCZ := zaa.mk (HC.out.below HBZ.out); clear hZ c0 c1 c2 c3 c4 c5 lg p0 p1 p2 p3 f0 f1 f2 f3 lX hmn; obtain ⟨c0, c1, c2, c3, c4, c5⟩ := HCZ.out.cells; have lg := zaM HCZ.out.cur; have hlk := HCZ.out.map.look_ok (cl, at_ - ne + oe) hin; cases ho : M (cl, at_ - ne + oe) with
  | none =>
   rw [ho] at hlk; simp only [Option.getD_none, Option.isSome_none, pv, partV, AT.k, AT.w, AT.wd, AT.A, AT.c, AT.kids, List.length_nil] at hlk; have HT := zaa.mk (show takeF fi oe ne M xs cl at_ = none by rw [HTE.out, ho])
   clear ho; go_upto_region 9 with (fail)
   obtain ⟨Y, hY⟩ : ∃ V : World, V = Z.alloc (.cells #[.int .u8 0, .int .u8 0, .int .i64 0, .slice none 0 0, .int .i64 0] 85) := ⟨_, rfl⟩; change Code.wp Try.prog _ _ _ (Z.alloc (.cells #[.int .u8 0, .int .u8 0, .int .i64 0, .slice none 0 0, .int .i64 0] 85))
   have HBY := zaa.mk (show Below Z.heap.size Z Y by rw [hY]; exact zad (Below.refl _ _) _)
   have HPY := zaa.mk (show Y.heap[Z.heap.size]? = some (.cells #[.int .u8 0, .int .u8 0, .int .i64 0, .slice none 0 0, .int .i64 0] 85 (0, 0)) by rw [hY]; exact heap_alloc_new _ _)
   rw [← hY]; clear hY c0 c1 c2 c3 c4 c5 lg hlk; have HCY := zaa.mk (HCZ.out.below HBY.out); have HXY := zaa.mk (zan HBZ.out HBY.out); obtain ⟨c0, c1, c2, c3, c4, c5⟩ := HCY.out.cells; have lg := zaM HCY.out.cur; go_wp2
   go_quiet (fail)
   have HBN := zaa.mk (show Below X.heap.size X (Y.drewN nq) from zan HXY.out ⟨rfl, rfl, rfl, Nat.le_refl _, fun _ _ => rfl⟩)
   have hrn := (HBN.out.block _ (zaM HRX.out)).trans HRX.out; have p0 := zae hrn 0; have p1 := zae hrn 1; have p2 := zae hrn 2; have p3 := zae hrn 3; have f0 := zab hrn 0; have f1 := zab hrn 1; have f2 := zab hrn 2; have f3 := zab hrn 3; have lX := zaM hrn; simp at p0 p1 p2 p3; go_wp2
   refine bodyPost_ret (zbr rfl _ _ W.heap.size 27 _ (0, 0) _ rfl (zbY ((HBN.out.block _ (zaM HRX.out)).trans HRX.out) _ _ _ _) Try.underlying27 rfl (by kernel_rfl)) rfl ?_
   exact NONE.out _ HBN.out HT.out
  | some y =>
   obtain ⟨⟨yk, yw, yd, yA, yc, yl⟩, n⟩ := y; have hmm := HMM.out _ _ _ ho; rw [ho] at hlk; simp only [Option.getD_some, Option.isSome_some, pv, partV, AT.k, AT.w, AT.wd, AT.A, AT.c, AT.kids] at hlk; have HT := zaa.mk (show takeF fi oe ne M xs cl at_ = some (.node yk yw yd yA yc yl, n) by rw [HTE.out, ho])
   clear ho; go_upto_region 9 with (fail)
   obtain ⟨Y, hY⟩ : ∃ V : World, V = Z.alloc (.cells #[.int .u8 yk, .int .u8 yw, .int .i64 yd, .slice yA yl.length yc, .int .i64 n] 85) := ⟨_, rfl⟩; change Code.wp Try.prog _ _ _ (Z.alloc (.cells #[.int .u8 yk, .int .u8 yw, .int .i64 yd, .slice yA yl.length yc, .int .i64 n] 85))
   have HBY := zaa.mk (show Below Z.heap.size Z Y by rw [hY]; exact zad (Below.refl _ _) _)
   have HPY := zaa.mk (show Y.heap[Z.heap.size]? = some (.cells #[.int .u8 yk, .int .u8 yw, .int .i64 yd, .slice yA yl.length yc, .int .i64 n] 85 (0, 0)) by rw [hY]; exact heap_alloc_new _ _)
   rw [← hY]; clear hY c0 c1 c2 c3 c4 c5 lg hlk; have HCY := zaa.mk (HCZ.out.below HBY.out); have HXY := zaa.mk (zan HBZ.out HBY.out); obtain ⟨c0, c1, c2, c3, c4, c5⟩ := HCY.out.cells; have lg := zaM HCY.out.cur; have y0 := zae HPY.out 0; have y1 := zae HPY.out 1; have y2 := zae HPY.out 2; have y3 := zae HPY.out 3; have y4 := zae HPY.out 4; have lY := zaM HPY.out; simp at y0 y1 y2 y3 y4; go_wp2
   go_quiet (fail)
   obtain ⟨V, hV⟩ : ∃ V : World, V = Y.drewN nq := ⟨_, rfl⟩; have HBV := zaa.mk (show Below Y.heap.size Y V by rw [hV]; exact ⟨rfl, rfl, rfl, Nat.le_refl _, fun _ _ => rfl⟩)
   rw [← hV]; clear hV c0 c1 c2 c3 c4 c5 lg y0 y1 y2 y3 y4 lY; have HCV := zaa.mk (HCY.out.below HBV.out); obtain ⟨c0, c1, c2, c3, c4, c5⟩ := HCV.out.cells; have fg := zab HCV.out.cur 5; have lg := zaM HCV.out.cur; have htk := HTK.out; go_upto_region 12 with (fail)
   obtain ⟨V2, hV2⟩ : ∃ V2 : World, V2 = V.setCell ⟨g, 5, none⟩ (.int .i64 (tk + 1)) := ⟨_, rfl⟩; change Code.wp Try.prog _ _ _ (V.setCell ⟨g, 5, none⟩ (.int .i64 (tk + 1)))
   have HV2 := zaa.mk hV2; have hgn : g ≠ W.heap.size := by have := HGW.out; omega
   have hgz : g ≠ Z.heap.size := by have := HGW.out; have := HBZ.out.size; have := HBX.out.size; omega
   have hrn : V2.heap[W.heap.size]? = some (.cells #[.int .u8 0, .int .u8 0, .int .i64 0, .slice none 0 0] 27 (0, 0)) := by rw [hV2, Below.heap_setCell _ _ _ _ (Ne.symm hgn)]; exact ((zan HXY.out HBV.out).block _ (zaM HRX.out)).trans HRX.out
   have hpn : V2.heap[Z.heap.size]? = some (.cells #[.int .u8 yk, .int .u8 yw, .int .i64 yd, .slice yA yl.length yc, .int .i64 n] 85 (0, 0)) := by rw [hV2, Below.heap_setCell _ _ _ _ (Ne.symm hgz)]; exact (HBV.out.block _ (zaM HPY.out)).trans HPY.out
   have HRN := zaa.mk hrn; have HZW := zaa.mk (show Z.heap.size ≠ W.heap.size by have := HBZ.out.size; have := zaM HRX.out; omega)
   rw [← hV2]; clear hV2 c0 c1 c2 c3 c4 c5 fg lg hgn hgz; have y0 := zae hpn 0; have y1 := zae hpn 1; have y2 := zae hpn 2; have y3 := zae hpn 3; have y4 := zae hpn 4; have lY := zaM hpn; simp at y0 y1 y2 y3 y4; have p0 := zae hrn 0; have p1 := zae hrn 1; have p2 := zae hrn 2; have p3 := zae hrn 3; have f0 := zab hrn 0; have f1 := zab hrn 1; have f2 := zab hrn 2; have f3 := zab hrn 3; have lX := zaM hrn; simp at p0 p1 p2 p3; have HS0 := zaa.mk (show V2.drew.heap[Z.heap.size]? = some (.cells #[.int .u8 yk, .int .u8 yw, .int .i64 yd, .slice yA yl.length yc, .int .i64 n] 85 (0, 0)) from hpn)
   clear hrn hpn y0 y1 y2 y3 y4 lY; refine wp_region_noPanic (zbx [0, 1, 2, 3, 4, 5, 6] (fun W' => W'.heap[Z.heap.size]? = some (.cells #[.int .u8 yk, .int .u8 yw, .int .i64 yd, .slice yA yl.length yc, .int .i64 n] 85 (0, 0))) mixE ?_)
   refine zar 0 (v := ?_) HS0.out ?_ ?_
   rotate_left
   ·(intro W' hW'; have s0 := zae hW' 0; have s1 := zae hW' 1; have s2 := zae hW' 2; have s3 := zae hW' 3; have s4 := zae hW' 4; have s5 := zaM hW'; simp at s0 s1 s2 s3 s4; go_simp; try rfl)
   simp only [Act.put, zav]; refine zar 1 (v := ?_) HS0.out ?_ ?_
   rotate_left
   ·(intro W' hW'; have s0 := zae hW' 0; have s1 := zae hW' 1; have s2 := zae hW' 2; have s3 := zae hW' 3; have s4 := zae hW' 4; have s5 := zaM hW'; simp at s0 s1 s2 s3 s4; go_simp; try rfl)
   simp only [Act.put, zav]; refine zar 2 (v := ?_) HS0.out ?_ ?_
   rotate_left
   ·(intro W' hW'; have s0 := zae hW' 0; have s1 := zae hW' 1; have s2 := zae hW' 2; have s3 := zae hW' 3; have s4 := zae hW' 4; have s5 := zaM hW'; simp at s0 s1 s2 s3 s4; go_simp; try rfl)
   simp only [Act.put, zav]; refine zar 3 (v := ?_) HS0.out ?_ ?_
   rotate_left
   ·(intro W' hW'; have s0 := zae hW' 0; have s1 := zae hW' 1; have s2 := zae hW' 2; have s3 := zae hW' 3; have s4 := zae hW' 4; have s5 := zaM hW'; simp at s0 s1 s2 s3 s4; go_simp; try rfl)
   simp only [Act.put, zav]; refine zaX (i := 4) rfl (by kernel_rfl) (fun K hK => ?_)
   go_simp
   refine hK.out _ _ (fun _ => (zbD HZW.out _ _ _ _).trans HS0.out) (fun _ => ?_)
   clear hK K; refine zar 5 (v := ?_) ((zbD HZW.out _ _ _ _).trans HS0.out) ?_ ?_
   rotate_left
   ·(intro W' hW'; have s0 := zae hW' 0; have s1 := zae hW' 1; have s2 := zae hW' 2; have s3 := zae hW' 3; have s4 := zae hW' 4; have s5 := zaM hW'; simp at s0 s1 s2 s3 s4; go_simp; try rfl)
   simp only [Act.put, zav]; refine zar 6 (v := ?_) ((zbD HZW.out _ _ _ _).trans HS0.out) ?_ ?_
   rotate_left
   ·(intro W' hW'; have s0 := zae hW' 0; have s1 := zae hW' 1; have s2 := zae hW' 2; have s3 := zae hW' 3; have s4 := zae hW' 4; have s5 := zaM hW'; simp at s0 s1 s2 s3 s4; go_simp; try rfl)
   simp only [Act.put, zav]; refine zbd (by kernel_rfl) (NoPanic.normal ?_) _
   go_wp2
   refine bodyPost_ret (zbr rfl _ _ W.heap.size 27 _ (0, 0) _ rfl (zbY (w := V2.drew) HRN.out _ _ _ _) Try.underlying27 rfl (by kernel_rfl)) rfl ?_
   have hfin := SOME.out V (.node yk yw yd yA yc yl) n (zan HXY.out HBV.out) HT.out; rw [← HV2.out] at hfin; exact hfin
 have HTE := zaa.mk (show takeF fi oe ne M xs cl at_ = match M (cl, at_) with | none => none | some (T, n) => if fi ≤ xs.getD (at_ + n).toNat 0 then none else some (T, n) by unfold takeF; rw [if_neg h1, if_neg h2])
 have hin : inS (cl, at_) := ⟨hcl, hat⟩; have hdf : decide (at_ < fi) = true := decide_eq_true (by omega)
 go_upto_region 8 with (fail)
 obtain ⟨Z, hZ⟩ : ∃ V : World, V = X := ⟨_, rfl⟩; have HBZ := zaa.mk (show Below X.heap.size X Z by rw [hZ]; exact ⟨rfl, rfl, rfl, Nat.le_refl _, fun _ _ => rfl⟩)
 change Code.wp Try.prog _ _ _ (X)
 rw [← hZ]; have HCZ := zaa.mk (HC.out.below HBZ.out); clear hZ c0 c1 c2 c3 c4 c5 lg p0 p1 p2 p3 f0 f1 f2 f3 lX hmn; obtain ⟨c0, c1, c2, c3, c4, c5⟩ := HCZ.out.cells; have lg := zaM HCZ.out.cur; have hlk := HCZ.out.map.look_ok (cl, at_) hin; cases ho : M (cl, at_) with
 | none =>
  rw [ho] at hlk; simp only [Option.getD_none, Option.isSome_none, pv, partV, AT.k, AT.w, AT.wd, AT.A, AT.c, AT.kids, List.length_nil] at hlk; have HT := zaa.mk (show takeF fi oe ne M xs cl at_ = none by rw [HTE.out, ho])
  clear ho; go_upto_region 9 with (fail)
  obtain ⟨Y, hY⟩ : ∃ V : World, V = Z.alloc (.cells #[.int .u8 0, .int .u8 0, .int .i64 0, .slice none 0 0, .int .i64 0] 85) := ⟨_, rfl⟩; change Code.wp Try.prog _ _ _ (Z.alloc (.cells #[.int .u8 0, .int .u8 0, .int .i64 0, .slice none 0 0, .int .i64 0] 85))
  have HBY := zaa.mk (show Below Z.heap.size Z Y by rw [hY]; exact zad (Below.refl _ _) _)
  have HPY := zaa.mk (show Y.heap[Z.heap.size]? = some (.cells #[.int .u8 0, .int .u8 0, .int .i64 0, .slice none 0 0, .int .i64 0] 85 (0, 0)) by rw [hY]; exact heap_alloc_new _ _)
  rw [← hY]; clear hY c0 c1 c2 c3 c4 c5 lg hlk; have HCY := zaa.mk (HCZ.out.below HBY.out); have HXY := zaa.mk (zan HBZ.out HBY.out); obtain ⟨c0, c1, c2, c3, c4, c5⟩ := HCY.out.cells; have lg := zaM HCY.out.cur; go_wp2
  go_quiet (fail)
  have HBN := zaa.mk (show Below X.heap.size X (Y.drewN nq) from zan HXY.out ⟨rfl, rfl, rfl, Nat.le_refl _, fun _ _ => rfl⟩)
  have hrn := (HBN.out.block _ (zaM HRX.out)).trans HRX.out; have p0 := zae hrn 0; have p1 := zae hrn 1; have p2 := zae hrn 2; have p3 := zae hrn 3; have f0 := zab hrn 0; have f1 := zab hrn 1; have f2 := zab hrn 2; have f3 := zab hrn 3; have lX := zaM hrn; simp at p0 p1 p2 p3; go_wp2
  refine bodyPost_ret (zbr rfl _ _ W.heap.size 27 _ (0, 0) _ rfl (zbY ((HBN.out.block _ (zaM HRX.out)).trans HRX.out) _ _ _ _) Try.underlying27 rfl (by kernel_rfl)) rfl ?_
  exact NONE.out _ HBN.out HT.out
 | some y =>
  obtain ⟨⟨yk, yw, yd, yA, yc, yl⟩, n⟩ := y; have hmm := HMM.out _ _ _ ho; rw [ho] at hlk; simp only [Option.getD_some, Option.isSome_some, pv, partV, AT.k, AT.w, AT.wd, AT.A, AT.c, AT.kids] at hlk; have HT := zaa.mk (show takeF fi oe ne M xs cl at_ = if fi ≤ xs.getD (at_ + n).toNat 0 then none else some (.node yk yw yd yA yc yl, n) by rw [HTE.out, ho])
  clear ho; go_upto_region 9 with (fail)
  obtain ⟨Y, hY⟩ : ∃ V : World, V = Z.alloc (.cells #[.int .u8 yk, .int .u8 yw, .int .i64 yd, .slice yA yl.length yc, .int .i64 n] 85) := ⟨_, rfl⟩; change Code.wp Try.prog _ _ _ (Z.alloc (.cells #[.int .u8 yk, .int .u8 yw, .int .i64 yd, .slice yA yl.length yc, .int .i64 n] 85))
  have HBY := zaa.mk (show Below Z.heap.size Z Y by rw [hY]; exact zad (Below.refl _ _) _)
  have HPY := zaa.mk (show Y.heap[Z.heap.size]? = some (.cells #[.int .u8 yk, .int .u8 yw, .int .i64 yd, .slice yA yl.length yc, .int .i64 n] 85 (0, 0)) by rw [hY]; exact heap_alloc_new _ _)
  rw [← hY]; clear hY c0 c1 c2 c3 c4 c5 lg hlk; have HCY := zaa.mk (HCZ.out.below HBY.out); have HXY := zaa.mk (zan HBZ.out HBY.out); obtain ⟨c0, c1, c2, c3, c4, c5⟩ := HCY.out.cells; have lg := zaM HCY.out.cur; have HTX := HT; obtain ⟨x, hx⟩ : ∃ x, x = xs.getD (at_ + n).toNat 0 := ⟨_, rfl⟩; obtain ⟨q0, q1⟩ := HCY.out.at_ (at_ + n).toNat (by have := hmm.2.2; simp only at this; omega)
  rw [← hx] at q0 HTX; have HHX := zaa.mk hx; clear hx q1 HT; have hia : 0 ≤ at_ + n := by have := hmm.1; omega
  have hib : at_ + n < (xs.length : Int) := hmm.2.2; have hw1 : IntKind.i64.wrap (at_ + n) = at_ + n := IntWalk.i64_in _ ⟨by omega, by omega⟩
  clear hmm; by_cases h5 : fi ≤ x
  ·have HT := zaa.mk (show takeF fi oe ne M xs cl at_ = none by rw [HTX.out, if_pos h5])
   have hd5 : decide (fi ≤ x) = true := decide_eq_true h5; have y4 := zae HPY.out 4; have lY := zaM HPY.out; simp at y4; go_wp2
   go_quiet (fail)
   have HBN := zaa.mk (show Below X.heap.size X (Y.drewN nq) from zan HXY.out ⟨rfl, rfl, rfl, Nat.le_refl _, fun _ _ => rfl⟩)
   have hrn := (HBN.out.block _ (zaM HRX.out)).trans HRX.out; have p0 := zae hrn 0; have p1 := zae hrn 1; have p2 := zae hrn 2; have p3 := zae hrn 3; have f0 := zab hrn 0; have f1 := zab hrn 1; have f2 := zab hrn 2; have f3 := zab hrn 3; have lX := zaM hrn; simp at p0 p1 p2 p3; go_wp2
   refine bodyPost_ret (zbr rfl _ _ W.heap.size 27 _ (0, 0) _ rfl (zbY ((HBN.out.block _ (zaM HRX.out)).trans HRX.out) _ _ _ _) Try.underlying27 rfl (by kernel_rfl)) rfl ?_
   exact NONE.out _ HBN.out HT.out
  ·have HT := zaa.mk (show takeF fi oe ne M xs cl at_ = some (.node yk yw yd yA yc yl, n) by rw [HTX.out, if_neg h5])
   have hd5 : decide (fi ≤ x) = false := decide_eq_false h5; have y0 := zae HPY.out 0; have y1 := zae HPY.out 1; have y2 := zae HPY.out 2; have y3 := zae HPY.out 3; have y4 := zae HPY.out 4; have lY := zaM HPY.out; simp at y0 y1 y2 y3 y4; go_wp2
   go_quiet (fail)
   obtain ⟨V, hV⟩ : ∃ V : World, V = Y.drewN nq := ⟨_, rfl⟩; have HBV := zaa.mk (show Below Y.heap.size Y V by rw [hV]; exact ⟨rfl, rfl, rfl, Nat.le_refl _, fun _ _ => rfl⟩)
   rw [← hV]; clear hV c0 c1 c2 c3 c4 c5 lg y0 y1 y2 y3 y4 lY; have HCV := zaa.mk (HCY.out.below HBV.out); obtain ⟨c0, c1, c2, c3, c4, c5⟩ := HCV.out.cells; have fg := zab HCV.out.cur 5; have lg := zaM HCV.out.cur; have htk := HTK.out; go_upto_region 12 with (fail)
   obtain ⟨V2, hV2⟩ : ∃ V2 : World, V2 = V.setCell ⟨g, 5, none⟩ (.int .i64 (tk + 1)) := ⟨_, rfl⟩; change Code.wp Try.prog _ _ _ (V.setCell ⟨g, 5, none⟩ (.int .i64 (tk + 1)))
   have HV2 := zaa.mk hV2; have hgn : g ≠ W.heap.size := by have := HGW.out; omega
   have hgz : g ≠ Z.heap.size := by have := HGW.out; have := HBZ.out.size; have := HBX.out.size; omega
   have hrn : V2.heap[W.heap.size]? = some (.cells #[.int .u8 0, .int .u8 0, .int .i64 0, .slice none 0 0] 27 (0, 0)) := by rw [hV2, Below.heap_setCell _ _ _ _ (Ne.symm hgn)]; exact ((zan HXY.out HBV.out).block _ (zaM HRX.out)).trans HRX.out
   have hpn : V2.heap[Z.heap.size]? = some (.cells #[.int .u8 yk, .int .u8 yw, .int .i64 yd, .slice yA yl.length yc, .int .i64 n] 85 (0, 0)) := by rw [hV2, Below.heap_setCell _ _ _ _ (Ne.symm hgz)]; exact (HBV.out.block _ (zaM HPY.out)).trans HPY.out
   have HRN := zaa.mk hrn; have HZW := zaa.mk (show Z.heap.size ≠ W.heap.size by have := HBZ.out.size; have := zaM HRX.out; omega)
   rw [← hV2]; clear hV2 c0 c1 c2 c3 c4 c5 fg lg hgn hgz; have y0 := zae hpn 0; have y1 := zae hpn 1; have y2 := zae hpn 2; have y3 := zae hpn 3; have y4 := zae hpn 4; have lY := zaM hpn; simp at y0 y1 y2 y3 y4; have p0 := zae hrn 0; have p1 := zae hrn 1; have p2 := zae hrn 2; have p3 := zae hrn 3; have f0 := zab hrn 0; have f1 := zab hrn 1; have f2 := zab hrn 2; have f3 := zab hrn 3; have lX := zaM hrn; simp at p0 p1 p2 p3; have HS0 := zaa.mk (show V2.drew.heap[Z.heap.size]? = some (.cells #[.int .u8 yk, .int .u8 yw, .int .i64 yd, .slice yA yl.length yc, .int .i64 n] 85 (0, 0)) from hpn)
   clear hrn hpn y0 y1 y2 y3 y4 lY; refine wp_region_noPanic (zbx [0, 1, 2, 3, 4, 5, 6] (fun W' => W'.heap[Z.heap.size]? = some (.cells #[.int .u8 yk, .int .u8 yw, .int .i64 yd, .slice yA yl.length yc, .int .i64 n] 85 (0, 0))) mixE ?_)
   refine zar 0 (v := ?_) HS0.out ?_ ?_
   rotate_left
   ·(intro W' hW'; have s0 := zae hW' 0; have s1 := zae hW' 1; have s2 := zae hW' 2; have s3 := zae hW' 3; have s4 := zae hW' 4; have s5 := zaM hW'; simp at s0 s1 s2 s3 s4; go_simp; try rfl)
   simp only [Act.put, zav]; refine zar 1 (v := ?_) HS0.out ?_ ?_
   rotate_left
   ·(intro W' hW'; have s0 := zae hW' 0; have s1 := zae hW' 1; have s2 := zae hW' 2; have s3 := zae hW' 3; have s4 := zae hW' 4; have s5 := zaM hW'; simp at s0 s1 s2 s3 s4; go_simp; try rfl)
   simp only [Act.put, zav]; refine zar 2 (v := ?_) HS0.out ?_ ?_
   rotate_left
   ·(intro W' hW'; have s0 := zae hW' 0; have s1 := zae hW' 1; have s2 := zae hW' 2; have s3 := zae hW' 3; have s4 := zae hW' 4; have s5 := zaM hW'; simp at s0 s1 s2 s3 s4; go_simp; try rfl)
   simp only [Act.put, zav]; refine zar 3 (v := ?_) HS0.out ?_ ?_
   rotate_left
   ·(intro W' hW'; have s0 := zae hW' 0; have s1 := zae hW' 1; have s2 := zae hW' 2; have s3 := zae hW' 3; have s4 := zae hW' 4; have s5 := zaM hW'; simp at s0 s1 s2 s3 s4; go_simp; try rfl)
   simp only [Act.put, zav]; refine zaX (i := 4) rfl (by kernel_rfl) (fun K hK => ?_)
   go_simp
   refine hK.out _ _ (fun _ => (zbD HZW.out _ _ _ _).trans HS0.out) (fun _ => ?_)
   clear hK K; refine zar 5 (v := ?_) ((zbD HZW.out _ _ _ _).trans HS0.out) ?_ ?_
   rotate_left
   ·(intro W' hW'; have s0 := zae hW' 0; have s1 := zae hW' 1; have s2 := zae hW' 2; have s3 := zae hW' 3; have s4 := zae hW' 4; have s5 := zaM hW'; simp at s0 s1 s2 s3 s4; go_simp; try rfl)
   simp only [Act.put, zav]; refine zar 6 (v := ?_) ((zbD HZW.out _ _ _ _).trans HS0.out) ?_ ?_
   rotate_left
   ·(intro W' hW'; have s0 := zae hW' 0; have s1 := zae hW' 1; have s2 := zae hW' 2; have s3 := zae hW' 3; have s4 := zae hW' 4; have s5 := zaM hW'; simp at s0 s1 s2 s3 s4; go_simp; try rfl)
   simp only [Act.put, zav]; refine zbd (by kernel_rfl) (NoPanic.normal ?_) _
   go_wp2
   refine bodyPost_ret (zbr rfl _ _ W.heap.size 27 _ (0, 0) _ rfl (zbY (w := V2.drew) HRN.out _ _ _ _) Try.underlying27 rfl (by kernel_rfl)) rfl ?_
   have hfin := SOME.out V (.node yk yw yd yA yc yl) n (zan HXY.out HBV.out) HT.out; rw [← HV2.out] at hfin; exact hfin
abbrev Part3 := AT × Int × Int
abbrev rawP (x : Part3) : List Value := [.int .u8 x.1.k, .int .u8 x.1.w, .int .i64 x.1.wd, .slice x.1.A x.1.kids.length x.1.c, .int .i64 x.2.1, .int .i64 x.2.2]
mutual
def zbL : AT → Int → List Part3
 | .node k w wd A c kids, at_ => if k < 50 then [] else (.node k w wd A c kids, at_, cntL kids) :: zbR kids at_
def zbR : List AT → Int → List Part3
 | [], _ => []
 | T :: r, at_ => zbL T at_ ++ zbR r (at_ + cntT T)
end
theorem partsL_take : ∀ (l : List AT) (i : Nat) (T : AT) (at_ : Int), l[i]? = some T → zbR (l.take (i + 1)) at_ = zbR (l.take i) at_ ++ zbL T (at_ + cntL (l.take i))
 | [], i, T, at_, h => by simp at h
 | x :: r, 0, T, at_, h => by simp at h; subst h; simp [zbR, cntL]
 | x :: r, i + 1, T, at_, h => by
  have := partsL_take r i T (at_ + cntT x) (by simpa using h)
  simp only [List.take_succ_cons, zbR, this, cntL, List.append_assoc, Int.add_assoc]
mutual
theorem partsT_len : ∀ (T : AT) (at_ : Int), (zbL T at_).length ≤ sizeT T
 | .node k w wd A c kids, at_ => by
  have := partsL_len kids at_; simp only [zbL, sizeT]
  split
  ·simp
  ·simp only [List.length_cons]; omega
theorem partsL_len : ∀ (l : List AT) (at_ : Int), (zbR l at_).length ≤ sizeL l
 | [], at_ => by simp [zbR]
 | T :: r, at_ => by
  have h1 := partsT_len T at_; have h2 := partsL_len r (at_ + cntT T); simp only [zbR, sizeL, List.length_append]; omega
end
theorem infoPart : (Try.prog.info? 90).map (fun i => (i.zero, i.size, i.bytes)) = some (some (.agg #[.int .u8 0, .int .u8 0, .int .i64 0, .slice none 0 0, .int .i64 0, .int .i64 0]), 6, 56) := by kernel_rfl
def Own (W W' : World) (v v' : Value) : Prop := W.grownBy W' v.ownBlock ∧ (v'.ownBlock = v.ownBlock ∨ ∃ b, v'.ownBlock = some b ∧ W.heap.size ≤ b)
theorem Own.trans {W W1 W2 : World} {v v1 v2 : Value} (h : Own W W1 v v1) (h2 : Own W1 W2 v1 v2) : Own W W2 v v2 := by
 obtain ⟨g1, o1⟩ := h; obtain ⟨g2, o2⟩ := h2; refine ⟨?_, ?_⟩
 ·rcases o1 with h | ⟨b, h, hb⟩
  ·exact World.grownBy.trans g1 (by rw [← h]; exact g2)
  ·exact ⟨g2.os.trans g1.os, g2.tape.trans g1.tape, g2.output.trans g1.output, Nat.le_trans g1.size g2.size, fun q hq hr => (g2.block q (Nat.lt_of_lt_of_le hq g1.size) (fun e => by rw [h] at e; injection e with e; omega)).trans (g1.block q hq hr)⟩
 ·rcases o2 with h | ⟨b, h, hb⟩
  ·rw [h]; exact o1
  ·exact .inr ⟨b, h, Nat.le_trans g1.size hb⟩
theorem Own.low {W0 W W' : World} {v v' : Value} {B0 : Nat} (h : Own W W' v v') (hl : Below W0.heap.size W0 W) (hB : W0.heap.size ≤ B0) (hv : ∀ k, v.ownBlock = some k → B0 ≤ k) : Below W0.heap.size W0 W' :=
 hl.grown h.1 hl.size (fun k hk => Nat.le_trans hB (hv k hk))
theorem below_step2 {n : Nat} {W0 W X : World} (h : Below n W0 W) (hX : Below W.heap.size W X) (hn : n ≤ W.heap.size) : Below n W0 X := h.grown (za8 hX none) hn (fun k hk => by cases hk)
set_option maxHeartbeats 8000000 in
set_option maxRecDepth 100000 in
theorem rparts_calls (W0 : World) (B0 : Nat) (hB0 : W0.heap.size ≤ B0) (z : Nat) : ∀ (T : AT), SizeOf.sizeOf T < z → AtT W0 T → ∀ (at_ : Int) (v : Value) (L : List Part3) (W : World), Below W0.heap.size W0 W → B0 ≤ W.heap.size →
  Kd.R (Kd.raw 6) 90 W B0 (fun q => B0 ≤ q) v (L.map rawP) → 0 ≤ at_ → at_ + sizeT T ≤ 1000000000 → L.length + sizeT T ≤ 1000000 →
  Calls Try.prog 41 #[v, T.val, .int .i64 at_] W fun e W' => ∃ v', e = .returned (.tuple #[v', .int .i64 (cntT T)]) ∧ Kd.R (Kd.raw 6) 90 W' B0 (fun q => B0 ≤ q) v' ((L ++ zbL T at_).map rawP) ∧ Own W W' v v' := by
 induction z with
 | zero => intro T h; exact absurd h (Nat.not_lt_zero _)
 | succ z ih =>
 rintro ⟨k, w1, wd, A, c, kids⟩ hz hT at_ v L W hlow hB hR hat has hlen
 simp only [AT.val, AT.k, AT.w, AT.wd, AT.A, AT.c, AT.kids]; have IH := zaa.mk ih; have HZ := zaa.mk hz; have HT := zaa.mk hT; have HLOW := zaa.mk hlow; have HB := zaa.mk hB; simp only [sizeT] at has hlen; have HAS := zaa.mk has; have HLEN := zaa.mk hlen; obtain ⟨X, hX⟩ : ∃ V, V = W.alloc (.cells #[.int .u8 k, .int .u8 w1, .int .i64 wd, .slice A kids.length c] 27) := ⟨_, rfl⟩; have hbX : Below W.heap.size W X := by rw [hX]; exact zad (Below.refl _ _) _
 have HBX := zaa.mk hbX; have HK := zaa.mk (show X.heap[W.heap.size]? = some (.cells #[.int .u8 k, .int .u8 w1, .int .i64 wd, .slice A kids.length c] 27 (0, 0)) by rw [hX]; exact heap_alloc_new _ _)
 have HRX := zaa.mk (Kd.zbE hR hbX); have HVL := zaa.mk (show ∀ q, v.ownBlock = some q → q < W.heap.size from fun q hq => by have := (Kd.R_bound hR).1 q hq; exact this.2.2.1)
 have HVB := zaa.mk (show ∀ q, v.ownBlock = some q → B0 ≤ q from hR.1)
 obtain ⟨Av, cv, rfl⟩ := Kd.zbO hR; rw [List.length_map] at *; have hu := Try.underlying27; have hup := Try.underlying90; clear ih hz hT hlow hB hR hbX has hlen; go_enter Try.func41, Try.ntmps41
 go_upto_region 1 with (fail)
 change Code.wp Try.prog _ _ _ (W.alloc (.cells #[.int .u8 k, .int .u8 w1, .int .i64 wd, .slice A kids.length c] 27))
 rw [← hX]; clear hX; have p0 := zae HK.out 0; have p1 := zae HK.out 1; have p2 := zae HK.out 2; have p3 := zae HK.out 3; have l1 := zaM HK.out; simp at p0 p1 p2 p3; by_cases hk : k < 50
 ·go_wp2
  refine bodyPost_ret (results_tmp2 rfl _ _ _) rfl ?_
  simp only [cntT, zbL, if_pos hk, List.append_nil]; exact ⟨_, rfl, HRX.out, za8 HBX.out _, .inl rfl⟩
 ·have HKN := zaa.mk hk
  obtain ⟨x, hx⟩ : ∃ x : Part3, x = (AT.node k w1 wd A c kids, at_, 0) := ⟨_, rfl⟩; have hxr : rawP x = [.int .u8 k, .int .u8 w1, .int .i64 wd, .slice A kids.length c, .int .i64 at_, .int .i64 0] := by rw [hx]; rfl
  have HXR := zaa.mk hxr; obtain ⟨Y, hY⟩ : ∃ V, V = X.alloc (.cells #[.int .u8 k, .int .u8 w1, .int .i64 wd, .slice A kids.length c, .int .i64 at_, .int .i64 0] 90) := ⟨_, rfl⟩; have hbY : Below X.heap.size X Y := by rw [hY]; exact zad (Below.refl _ _) _
  obtain ⟨g, cap, w5, hrun, hg5, hgo5, hbg5, hnl, hR5⟩ := append_elem (Kd.raw 6) 90 79 HRX.out (by have := HB.out; have := HBX.out.size; omega) (fun q hq => by have := HB.out; have := HBX.out.size; omega) Try.underlying79 infoPart rfl (by decide) (by decide) (by rw [List.length_map]; have := HLEN.out; omega) hbY (rawP x) (rawP x) (by rw [hY, hxr]; exact heap_alloc_new _ _) ⟨rfl, rfl, by rw [hxr]; intro u hu; simp at hu; rcases hu with rfl | rfl | rfl | rfl | rfl | rfl <;> rfl⟩ rfl (by rw [hxr]; intro u hu; simp at hu; rcases hu with rfl | rfl | rfl | rfl | rfl | rfl <;> rfl)
  rw [hY] at hrun; have HOW5 := zaa.mk (show Own X w5 (.slice Av L.length cv) (.slice (some ⟨g, 0, none⟩) (L.length + 1) cap) from ⟨hg5, hgo5.imp (fun h => by rw [h]; rfl) (fun h => ⟨g, rfl, h⟩)⟩)
  have HR5 := zaa.mk (show Kd.R (Kd.raw 6) 90 w5 B0 (fun q => B0 ≤ q) (.slice (some ⟨g, 0, none⟩) (L.length + 1) cap) ((L ++ [x]).map rawP) by rw [List.map_append, List.map_singleton]; exact hR5)
  have hK5 : w5.heap[W.heap.size]? = some (.cells #[.int .u8 k, .int .u8 w1, .int .i64 wd, .slice A kids.length c] 27 (0, 0)) := (hg5.block _ l1 (fun e => by have := HVL.out _ e.symm; omega)).trans HK.out
  have HK5 := zaa.mk hK5; have HHX := zaa.mk hx; clear hY hbY hg5 hgo5 hR5 hx hxr hK5 hnl hbg5; go_upto_region 4 with (fail)
  go_upto_region 5 with (at_builtin; refine wpL_append rfl _ _ _ rfl hrun ?_)
  obtain ⟨V1, hV1⟩ : ∃ V1, V1 = Value.slice (some ⟨g, 0, none⟩) (L.length + 1) cap := ⟨_, rfl⟩; rw [← hV1] at HR5 HOW5; rw [← hV1]; clear p0 p1 p2 p3 l1 hrun hV1; have HVB2 := zaa.mk (show ∀ w' v', Own X w' (.slice Av L.length cv) v' → Below W0.heap.size W0 w' ∧ w'.heap[W.heap.size]? = some (.cells #[.int .u8 k, .int .u8 w1, .int .i64 wd, .slice A kids.length c] 27 (0, 0)) ∧ B0 ≤ w'.heap.size from fun w' v' h => ⟨h.low (below_step2 HLOW.out HBX.out HLOW.out.size) hB0 HVB.out, (h.1.block _ (zaM HK.out) (fun e => by have := HVL.out _ e.symm; omega)).trans HK.out, by have := HB.out; have := HBX.out.size; have := h.1.size; omega⟩)
  go_upto_region 7 with (fail)
  go_loopg [0, 9, 10] kids.length (fun kq v0 v9 v10 w' => ∃ (i : Nat) (vv : Value), vv = v0 ∧ v9 = .int .i64 (cntL (kids.take i)) ∧ v10 = .int .i64 i ∧ i ≤ kids.length ∧ zaa (kq = kids.length - i) ∧ zaa (Kd.R (Kd.raw 6) 90 w' B0 (fun q => B0 ≤ q) v0 ((L ++ [x] ++ zbR (kids.take i) at_).map rawP)) ∧ zaa (Own X w' (.slice Av L.length cv) v0))
  case atStart => exact ⟨0, _, rfl, by simp [cntL], rfl, Nat.zero_le _, ⟨rfl⟩, ⟨by rw [List.take_zero, zbR, List.append_nil]; exact HR5.out⟩, HOW5⟩
  case round =>
   obtain ⟨i, vv, rfl, rfl, rfl, hi, HKQ, HRI, HOI⟩ := hrel; obtain ⟨hlw, hkw, hbw⟩ := HVB2.out _ _ HOI.out; have HLW := zaa.mk hlw; have HKW := zaa.mk hkw; have HBW := zaa.mk hbw; clear hlw hbw; have p3 := zae hkw 3; have l1 := zaM hkw; simp at p3; clear hkw; by_cases hlt : i < kids.length
   ·obtain ⟨adk, rfl, hw0, hTk⟩ := AtT.kid HT.out i hlt
    obtain ⟨T, hTe⟩ : ∃ T, T = kids[i] := ⟨_, rfl⟩; rw [← hTe] at hw0 hTk; have hie : kids[i]? = some T := by rw [hTe]; exact List.getElem?_eq_getElem hlt
    have HTK := zaa.mk hTk; have HIE := zaa.mk hie; have HSZ := zaa.mk (show SizeOf.sizeOf T < z by have := List.sizeOf_lt_of_mem (List.mem_of_getElem? hie); have := HZ.out; simp at this; omega)
    have hc1 := cntL_take kids i T hie; have hs1 := sizeL_take kids i T hie; have hs2 := sizeL_mono kids (i + 1); have hc2 := (cntL_le (kids.take i)); have hc3 := cntT_le T; have hl5 := sizeL_len kids; have hp1 := partsL_len (kids.take i) at_; obtain ⟨q0, q1, q2, q3⟩ := hw0.below HLW.out; have has := HAS.out; have hlen := HLEN.out; have HE := zaa.mk hc1; have HEP := zaa.mk (partsL_take kids i T at_ hie); clear hie hTk hTe hw0; have hcall := IH.out T HSZ.out HTK.out (at_ + cntL (kids.take i)) vv (L ++ [x] ++ zbR (kids.take i) at_) wr HLW.out HBW.out HRI.out (by omega) (by omega) (by simp only [List.length_append, List.length_singleton]; omega)
    simp only [AT.val] at hcall; go_wp2_with (go_at_call 41; refine hcall.mono ?_; rintro e w5 ⟨v5, rfl, hR5, hO5⟩; have HR6 := zaa.mk hR5; have HO6 := zaa.mk hO5; clear hR5 hO5 hcall)
    go_roundg (kids.length - (i + 1))
    case measure => have := HKQ.out; omega
    case rel => exact ⟨i + 1, _, rfl, by rw [HE.out], by go_num, by omega, ⟨rfl⟩, ⟨by rw [HEP.out, ← List.append_assoc]; exact HR6.out⟩, ⟨HOI.out.trans HO6.out⟩⟩
   ·obtain rfl : i = kids.length := by omega
    rw [List.take_length] at *; obtain ⟨cn, hcn⟩ : ∃ cn, cn = cntL kids := ⟨_, rfl⟩; rw [← hcn]; have HCN := zaa.mk hcn; obtain ⟨PL, hPL⟩ : ∃ PL, PL = zbR kids at_ := ⟨_, rfl⟩; rw [← hPL] at HRI; have HPL := zaa.mk hPL; obtain ⟨g2, cap2, hv, hgb, hgl2, _⟩ := Kd.R_form HRI.out (by simp; omega)
    have hlen2 : ((L ++ [x] ++ PL).map rawP).length = L.length + 1 + PL.length := by simp; omega
    rw [hlen2] at hv; subst hv; obtain ⟨ce, hcl, hMM, hcc, hfr⟩ := Kd.R_elem HRI.out [] (L.length : Int) (by omega) (by omega)
    have hel : ((L ++ [x] ++ PL).map rawP).getD (L.length : Int).toNat [] = rawP x := by simp [List.getD_eq_getElem?_getD]
    rw [hel] at hMM; obtain ⟨rfl, _⟩ : ce = rawP x ∧ True := ⟨hMM.1, trivial⟩; have hseg := Kd.R_seg HRI.out (L.length : Int) (by omega) (by omega) (seg := [.int .i64 cn]) (j := 5) hcl hcc (show 5 + 1 ≤ 6 from by decide) (x' := rawP (x.1, x.2.1, cn)) (okp := fun _ => False) (by rw [HHX.out]; exact ⟨rfl, rfl, by intro u hu; simp at hu; rcases hu with rfl | rfl | rfl | rfl | rfl | rfl <;> rfl⟩) (fun _ hk => hk.elim)
    simp only [show (Kd.raw 6).sz = 6 from rfl, Int.toNat_natCast] at hcc hfr hseg
    have x5 : wr.cell? ⟨g2, L.length * 6 + 5, none⟩ = some (.int .i64 0) := hcc 5 _ (by rw [HXR.out]; rfl)
    have f5 := hfr 5; have HSEG := zaa.mk hseg; clear hseg hcc hfr hMM hel hcl hcn hPL hlt hi hlen2; have hl1 : (L.length : Int) < (L.length : Int) + 1 + PL.length := by omega
    go_wp2
    refine bodyPost_ret (results_tmp2 rfl _ _ _) rfl ?_
    have hls : ((L ++ [x] ++ PL).map rawP).set L.length (rawP (x.1, x.2.1, cn)) = (L ++ zbL (AT.node k w1 wd A c kids) at_).map rawP := by
     simp only [zbL, if_neg (show ¬ k < 50 from by have := HKN.out; omega)]
     rw [HHX.out, ← HPL.out, ← HCN.out]; simp [List.set_append]
    have hR7 := HSEG.out.1; rw [hls] at hR7; have hO7 : Own X (wr.setCell ⟨g2, L.length * 6 + 5, none⟩ (.int .i64 cn)) (.slice Av L.length cv) (.slice (some ⟨g2, 0, none⟩) (L.length + 1 + PL.length) cap2) := HOI.out.trans ⟨HSEG.out.2, .inl rfl⟩; refine ⟨_, ?_, hR7, World.grownBy.trans (za8 HBX.out _) hO7.1, hO7.2.imp_right (fun ⟨q, h1, h2⟩ => ⟨q, h1, Nat.le_trans HBX.out.size h2⟩)⟩
    simp only [cntT, if_neg (show ¬ k < 50 from by have := HKN.out; omega)]
    rw [← HCN.out]
    rfl
structure RN (w0 w : World) (n0 g : Nat) (v : Value) (fi oe ne : Int) (L : List Part3) (Al : Option Addr) (cl : Nat) (l : List S39) : Prop where
 low : Below n0 w0 w
 cur : w.heap[g]? = some (.cells #[v, .slice Al l.length cl, .int .i64 fi, .int .i64 oe, .int .i64 ne] 83 (0, 0))
 row : Kd.R (Kd.raw 6) 90 w n0 (fun q => n0 ≤ q) v (L.map rawP)
 toks : Kd.C k39 w Al l.length l
 n1 : n0 ≤ g
theorem RN.below {w0 w w' : World} {n0 g : Nat} {v : Value} {fi oe ne : Int} {L : List Part3} {Al : Option Addr} {cl : Nat} {l : List S39} (h : RN w0 w n0 g v fi oe ne L Al cl l) (hb : Below w.heap.size w w') : RN w0 w' n0 g v fi oe ne L Al cl l :=
 ⟨below_step2 h.low hb (Nat.le_of_lt (Nat.lt_of_le_of_lt h.n1 (zaM h.cur))), zaU h.cur hb, Kd.zbE h.row hb, Kd.za4 h.toks hb, h.n1⟩
def RNewPost (W : World) (T : AT) (Al : Option Addr) (cl : Nat) (l : List S39) (fi oe ne : Int) (fit : Bool) (e : Ending) (W' : World) : Prop :=
 ∃ er, er = errN fi oe ne l.length fit ∧ Below W.heap.size W W' ∧ ((er ≠ 0 ∧ e = .returned (.tuple #[.pointer none, .int .i64 er])) ∨ (er = 0 ∧ ∃ g v, e = .returned (.tuple #[.pointer (some ⟨g, 0, none⟩), .int .i64 0]) ∧ RN W W' W.heap.size g v fi oe ne (zbL T 0) Al cl l))
theorem rnew_bad {W W' : World} {T : AT} {Al : Option Addr} {cl : Nat} {l : List S39} {fi oe ne : Int} {fit : Bool} {e : Ending} (er : Int) (h : errN fi oe ne l.length fit = er) (hb : Below W.heap.size W W') (hne : er ≠ 0) (he : e = .returned (.tuple #[.pointer none, .int .i64 er])) : RNewPost W T Al cl l fi oe ne fit e W' := ⟨er, h.symm, hb, .inl ⟨hne, he⟩⟩
set_option maxHeartbeats 8000000 in
set_option maxRecDepth 100000 in
theorem rnew_calls (W : World) (T : AT) (hT : AtT W T) (hby : byteT T.erase) (hts : tsize T.erase ≤ 1000000) (hsz : sizeT T ≤ 1000000) (Al : Option Addr) (cl : Nat) (l : List S39) (hr : Kd.C k39 W Al l.length l) (hc : l.length ≤ cl) (hl : l.length ≤ 1000000) (fi oe ne : Int) (fit : Bool) (hfit : fitsT T.erase l = fit) :
  Calls Try.prog 13 #[T.val, .slice Al l.length cl, .int .i64 fi, .int .i64 oe, .int .i64 ne] W fun e W' => RNewPost W T Al cl l fi oe ne fit e W' := by
 obtain ⟨k, w1, wd, A, c, kids⟩ := T; simp only [AT.val, AT.k, AT.w, AT.wd, AT.A, AT.c, AT.kids]; have HT := zaa.mk hT; have HBY := zaa.mk hby; have HTS := zaa.mk hts; have HSZ := zaa.mk hsz; have HR := zaa.mk hr; have HC := zaa.mk hc; have HF := zaa.mk hfit; obtain ⟨X, hX⟩ : ∃ V, V = W.alloc (.cells #[.int .u8 k, .int .u8 w1, .int .i64 wd, .slice A kids.length c] 27) := ⟨_, rfl⟩; have hbX : Below W.heap.size W X := by rw [hX]; exact zad (Below.refl _ _) _
 have HBX := zaa.mk hbX; have HK := zaa.mk (show X.heap[W.heap.size]? = some (.cells #[.int .u8 k, .int .u8 w1, .int .i64 wd, .slice A kids.length c] 27 (0, 0)) by rw [hX]; exact heap_alloc_new _ _)
 have hu := Try.underlying27; have huc := Try.underlying83; clear hT hts hsz hr hc hfit hbX hby; go_enter Try.func13, Try.ntmps13
 go_upto_region 1 with (fail)
 change Code.wp Try.prog _ _ _ (W.alloc (.cells #[.int .u8 k, .int .u8 w1, .int .i64 wd, .slice A kids.length c] 27))
 rw [← hX]; clear hX; by_cases h1 : fi < 0
 ·go_wp2
  refine bodyPost_ret (results_tmp2 rfl _ _ _) rfl ?_
  exact rnew_bad 2 (by unfold errN; rw [if_pos (.inl h1)]) HBX.out (by decide) rfl
 by_cases h2 : oe < fi
 ·go_wp2
  refine bodyPost_ret (results_tmp2 rfl _ _ _) rfl ?_
  exact rnew_bad 2 (by unfold errN; rw [if_pos (.inr (.inl h2))]) HBX.out (by decide) rfl
 by_cases h3 : ne < fi
 ·go_wp2
  refine bodyPost_ret (results_tmp2 rfl _ _ _) rfl ?_
  exact rnew_bad 2 (by unfold errN; rw [if_pos (.inr (.inr (.inl h3)))]) HBX.out (by decide) rfl
 by_cases h4 : (l.length : Int) < oe
 ·go_wp2
  refine bodyPost_ret (results_tmp2 rfl _ _ _) rfl ?_
  exact rnew_bad 2 (by unfold errN; rw [if_pos (.inr (.inr (.inr (.inl h4))))]) HBX.out (by decide) rfl
 by_cases h5 : 1048576 < ne
 ·go_wp2
  refine bodyPost_ret (results_tmp2 rfl _ _ _) rfl ?_
  exact rnew_bad 2 (by unfold errN; rw [if_pos (.inr (.inr (.inr (.inr h5))))]) HBX.out (by decide) rfl
 have HER := zaa.mk (show errN fi oe ne l.length fit = if fit then 0 else 150 by unfold errN; rw [if_neg (by omega)])
 have p0 := zae HK.out 0; have p1 := zae HK.out 1; have p2 := zae HK.out 2; have p3 := zae HK.out 3; have lX := zaM HK.out; simp at p0 p1 p2 p3; have hCk := C_of_AT _ _ (Nat.lt_succ_self _) W HT.out; simp only [AT.A, AT.kids] at hCk; have hkc : kids.length ≤ c := by have := HT.out; simp only [AtT] at this; exact this.1
 have HCK := zaa.mk hCk; have HKC := zaa.mk hkc; clear hCk hkc; go_upto_region 3 with (fail)
 have hel := zbl kids; have hcall := rfits_calls k w1 wd A c (zbN kids) Al cl l fit X (by rw [hel]; exact Kd.za4 HCK.out HBX.out) (by rw [hel]; exact HKC.out) (Kd.za4 HR.out HBX.out) HC.out HBY.out (by have := HTS.out; simp only [AT.erase] at this; omega) (by omega) HF.out
 rw [hel] at hcall; cases fit with
 | false =>
  go_wp2_with (go_at_call 40; refine hcall.mono ?_; rintro e w3 ⟨rfl, hb3⟩; have HB3 := zaa.mk hb3; clear hb3 hcall)
  refine bodyPost_ret (results_tmp2 rfl _ _ _) rfl ?_
  exact rnew_bad 150 (by rw [HER.out]; rfl) (zan HBX.out HB3.out) (by decide) rfl
 | true =>
  go_upto_region 5 with (go_at_call 40; refine hcall.mono ?_; rintro e w3 ⟨rfl, hb3⟩; have HB3 := zaa.mk hb3; clear hb3 hcall)
  have hk3 := zaU HK.out HB3.out; clear p0 p1 p2 p3 lX; have p0 := zae hk3 0; have p1 := zae hk3 1; have p2 := zae hk3 2; have p3 := zae hk3 3; have lX := zaM hk3; simp at p0 p1 p2 p3; clear hk3; have HL3 := zaa.mk (zan HBX.out HB3.out); have hcall := rparts_calls W W.heap.size (Nat.le_refl _) (SizeOf.sizeOf (AT.node k w1 wd A c kids) + 1) (AT.node k w1 wd A c kids) (Nat.lt_succ_self _) HT.out 0 (.slice none 0 0) [] w3 HL3.out HL3.out.size (Kd.R_nil _ _ _ _ _) (Int.le_refl _) (by have := HSZ.out; omega) (by have := HSZ.out; simp only [List.length_nil]; omega)
  simp only [AT.val, AT.k, AT.w, AT.wd, AT.A, AT.c, AT.kids, List.nil_append] at hcall; go_upto_region 6 with (go_at_call 41; refine hcall.mono ?_; rintro e w4 ⟨v4, rfl, hR4, hO4⟩; obtain ⟨A4, c4, e4⟩ := Kd.zbO hR4; subst e4; rw [List.length_map] at *; have HR4 := zaa.mk hR4; have HO4 := zaa.mk hO4; clear hR4 hO4 hcall)
  have HL4 := zaa.mk (show Below W.heap.size W w4 from HO4.out.low HL3.out (Nat.le_refl _) (fun k hk => by simp [Value.ownBlock] at hk))
  go_wp2
  refine bodyPost_ret (results_tmp2 rfl _ _ _) rfl ?_
  have hbz : ∀ o, Below w4.heap.size w4 (w4.alloc o) := fun o => zad (Below.refl _ _) _
  have hl5 := fun o => zan HL4.out (hbz o)
  exact ⟨0, by rw [HER.out]; rfl, hl5 _, .inr ⟨rfl, w4.heap.size, _, rfl, hl5 _, heap_alloc_new _ _, Kd.zbE HR4.out (hbz _), Kd.za4 HR.out (hl5 _), HL4.out.size⟩⟩
def hitB (cl a : Int) (x : Part3) : Bool := decide (x.2.2 ≠ 0) && decide (x.2.1 = a) && decide (cl ∈ clsN x.1.k)
def zbT (fi oe ne : Int) (L : List Part3) (l : List S39) (cl at_ : Int) : Option (AT × Int) :=
 if at_ < 0 ∨ (fi ≤ at_ ∧ at_ < ne) then none else
 match L.find? (hitB cl (if fi ≤ at_ then IntKind.i64.wrap (at_ - ne + oe) else at_)) with
 | none => none
 | some x => if at_ < fi ∧ fi ≤ (bh l (x.2.1 + x.2.2).toNat : Int) then none else some (x.1, x.2.2)
def RTakePost (w0 W : World) (n0 g : Nat) (v : Value) (fi oe ne : Int) (L : List Part3) (Al : Option Addr) (cl : Nat) (l : List S39) (o : Option (AT × Int)) (e : Ending) (W' : World) : Prop :=
 Below W.heap.size W W' ∧ ((o = none ∧ e = .returned (.tuple #[zNode, .int .i64 0, .bool false])) ∨ ∃ T n, o = some (T, n) ∧ e = .returned (.tuple #[T.val, .int .i64 n, .bool true]))
theorem part_at {W : World} {A : Option Addr} {L : List Part3} (h : Kd.C (Kd.raw 6) W A (L.map rawP).length (L.map rawP)) (i : Nat) (hi : i < L.length) (x : Part3) (hx : L[i]? = some x) : ∃ ad, A = some ad ∧ W.cell? (ad.add (i * 6)) = some (.int .u8 x.1.k) ∧ (∀ j u, 0 < j → (rawP x)[j]? = some u → W.cell? ⟨(ad.add (i * 6)).block, (ad.add (i * 6)).off + j, none⟩ = some u) := by
 obtain ⟨ad, c, e, _, hK, hc0⟩ := Kd.C_get h [] (i : Int) (by omega) (by simpa using hi)
 have hc : ∀ j u, c[j]? = some u → W.cell? (ad.add (i * 6 + j)) = some u := fun j u hu => by have := hc0 j u hu; rw [Int.toNat_natCast] at this; exact this
 have hc' : c = rawP x := by
  have h1 := hK.1; rw [h1, Int.toNat_natCast, List.getD_eq_getElem?_getD, List.getElem?_map, hx]
  rfl
 subst hc'; refine ⟨ad, e, by simpa using hc 0 _ rfl, fun j u hj hu => ?_⟩
 rw [← zbp _ _ j hj]; exact hc j u hu
theorem find_take {p : Part3 → Bool} {L : List Part3} {i : Nat} {x : Part3} (hx : L[i]? = some x) (h0 : (L.take i).find? p = none) (hp : p x = false) : (L.take (i + 1)).find? p = none := by
 rw [List.take_add_one, hx, List.find?_append, h0]; simp [hp]
theorem find_hit {p : Part3 → Bool} {L : List Part3} {i : Nat} {x : Part3} (hx : L[i]? = some x) (h0 : (L.take i).find? p = none) (hp : p x = true) : L.find? p = some x := by
 have hd : L.drop i = x :: L.drop (i + 1) := by
  obtain ⟨hi, e⟩ := List.getElem?_eq_some_iff.1 hx; rw [List.drop_eq_getElem_cons hi, e]
 rw [← List.take_append_drop i L, List.find?_append, h0, hd]; simp [hp]
set_option maxHeartbeats 8000000 in
set_option maxRecDepth 100000 in
theorem rtake_calls {w0 W : World} {n0 g : Nat} {v : Value} {fi oe ne : Int} {L : List Part3} {Al : Option Addr} {cp : Nat} {l : List S39} (h : RN w0 W n0 g v fi oe ne L Al cp l) (hcp : l.length ≤ cp) (hl : l.length ≤ 1000000) (hk : ∀ t ∈ l, 0 ≤ t.f0) (hL : ∀ x ∈ L, AtT w0 x.1 ∧ 0 ≤ x.2.1 ∧ 0 ≤ x.2.2 ∧ x.2.1 + x.2.2 ≤ l.length) (hLl : L.length ≤ 1000000) (hw0 : Below w0.heap.size w0 W) (hfi : 0 ≤ fi ∧ fi ≤ ne ∧ ne ≤ 1048576 ∧ 0 ≤ oe ∧ oe ≤ 1000000) (cl at_ : Int) (hcl : 0 ≤ cl ∧ cl ≤ 255) (hat : inI at_) :
  Calls Try.prog 15 #[.pointer (some ⟨g, 0, none⟩), .int .u8 cl, .int .i64 at_] W fun e W' => RTakePost w0 W n0 g v fi oe ne L Al cp l (zbT fi oe ne L l cl at_) e W' := by
 obtain ⟨X, hX⟩ : ∃ V, V = W.alloc (.cells #[.int .u8 0, .int .u8 0, .int .i64 0, .slice none 0 0] 27) := ⟨_, rfl⟩; have HBX := zaa.mk (show Below W.heap.size W X by rw [hX]; exact zad (Below.refl _ _) _)
 have HRX := zaa.mk (show X.heap[W.heap.size]? = some (.cells #[.int .u8 0, .int .u8 0, .int .i64 0, .slice none 0 0] 27 (0, 0)) by rw [hX]; exact heap_alloc_new _ _)
 obtain ⟨Av, cv, e⟩ := Kd.zbO h.row; rw [List.length_map] at e; subst e; have HC := zaa.mk (h.below HBX.out); have HLL := zaa.mk hL; have HKK := zaa.mk hk; have HCP := zaa.mk hcp; have HW0 := zaa.mk (zan hw0 (by have := HBX.out; exact this))
 have hu := Try.underlying27; have huc := Try.underlying83; have hup := Try.underlying90; unfold inI at hat
 clear h hL hk hcp hw0; go_enter Try.func15, Try.ntmps15
 go_upto_region 1 with (fail)
 change Code.wp Try.prog _ _ _ (W.alloc (.cells #[.int .u8 0, .int .u8 0, .int .i64 0, .slice none 0 0] 27))
 rw [← hX]; clear hX; have p0 := zae HRX.out 0; have p1 := zae HRX.out 1; have p2 := zae HRX.out 2; have p3 := zae HRX.out 3; have f0 := zab HRX.out 0; have f1 := zab HRX.out 1; have f2 := zab HRX.out 2; have f3 := zab HRX.out 3; have lX := zaM HRX.out; simp at p0 p1 p2 p3; have c0 := zae HC.out.cur 0; have c1 := zae HC.out.cur 1; have c2 := zae HC.out.cur 2; have c3 := zae HC.out.cur 3; have c4 := zae HC.out.cur 4; have lg := zaM HC.out.cur; simp at c0 c1 c2 c3 c4; have NONE : ∀ Z, Below X.heap.size X Z → zbT fi oe ne L l cl at_ = none → RTakePost w0 W n0 g (.slice Av L.length cv) fi oe ne L Al cp l (zbT fi oe ne L l cl at_) (.returned (.tuple #[zNode, .int .i64 0, .bool false])) (put4 Z W.heap.size (.int .u8 0) (.int .u8 0) (.int .i64 0) (.slice none 0 0)) :=
  fun Z hZ ht => ⟨put4_below (zan HBX.out hZ) (Nat.le_refl _) _ _ _ _, .inl ⟨ht, rfl⟩⟩
 have NONE := zaa.mk NONE; have SOME : ∀ Y T n, Below X.heap.size X Y → zbT fi oe ne L l cl at_ = some (T, n) → RTakePost w0 W n0 g (.slice Av L.length cv) fi oe ne L Al cp l (zbT fi oe ne L l cl at_) (.returned (.tuple #[T.val, .int .i64 n, .bool true])) (put4 Y W.heap.size (.int .u8 T.k) (.int .u8 T.w) (.int .i64 T.wd) (.slice T.A T.kids.length T.c)) :=
  fun Y T n hY ht => ⟨put4_below (zan HBX.out hY) (Nat.le_refl _) _ _ _ _, .inr ⟨T, n, ht, rfl⟩⟩
 have SOME := zaa.mk SOME; by_cases h1 : at_ < 0
 ·have HT := zaa.mk (show zbT fi oe ne L l cl at_ = none by unfold zbT; rw [if_pos (.inl h1)])
  go_wp2
  refine bodyPost_ret (zbr rfl _ _ W.heap.size 27 _ (0, 0) _ rfl (zbY HRX.out _ _ _ _) Try.underlying27 rfl (by kernel_rfl)) rfl ?_
  exact NONE.out X (Below.refl _ _) HT.out
 by_cases h2 : fi ≤ at_
 ·by_cases h3 : at_ < ne
  ·have HT := zaa.mk (show zbT fi oe ne L l cl at_ = none by unfold zbT; rw [if_pos (.inr ⟨h2, h3⟩)])
   go_wp2
   refine bodyPost_ret (zbr rfl _ _ W.heap.size 27 _ (0, 0) _ rfl (zbY HRX.out _ _ _ _) Try.underlying27 rfl (by kernel_rfl)) rfl ?_
   exact NONE.out X (Below.refl _ _) HT.out
  obtain ⟨a, ha⟩ : ∃ a, a = IntKind.i64.wrap (at_ - ne + oe) := ⟨_, rfl⟩; have HTE := zaa.mk (show zbT fi oe ne L l cl at_ = match L.find? (hitB cl a) with | none => none | some x => if at_ < fi ∧ fi ≤ (bh l (x.2.1 + x.2.2).toNat : Int) then none else some (x.1, x.2.2) by unfold zbT; rw [if_neg (by omega), if_pos h2, ha])
  have hdf : decide (at_ < fi) = false := decide_eq_false (by omega)
  have HNF := zaa.mk (show ¬ at_ < fi by omega)
  have hw2 : IntKind.i64.wrap (at_ - ne + oe) = a := ha.symm; have hw1 : IntKind.i64.wrap (at_ - ne) = at_ - ne := IntWalk.i64_in _ ⟨by omega, by omega⟩
  clear ha; go_upto_region 5 with (fail)
  go_quiet (fail)
  go_upto_region 7 with (fail)
  clear hw1 hw2 h3; obtain ⟨Z, hZ⟩ : ∃ V : World, V = X.drewN nq := ⟨_, rfl⟩; have HBZ := zaa.mk (show Below X.heap.size X Z by rw [hZ]; exact ⟨rfl, rfl, rfl, Nat.le_refl _, fun _ _ => rfl⟩)
  rw [← hZ]; clear hZ c0 c1 c2 c3 c4 lg p0 p1 p2 p3 f0 f1 f2 f3 lX; have HX0 := zaa.mk (show ∀ w', Below X.heap.size X w' → RN w0 w' n0 g (.slice Av L.length cv) fi oe ne L Al cp l ∧ Below w0.heap.size w0 w' from fun w' h => ⟨HC.out.below h, zan HW0.out h⟩)
  go_loopg [10] L.length (fun kq v10 w' => ∃ (i : Nat), v10 = .int .i64 i ∧ i ≤ L.length ∧ zaa (kq = L.length - i) ∧ zaa (Below X.heap.size X w') ∧ zaa ((L.take i).find? (hitB cl a) = none))
  case atStart => exact ⟨0, rfl, Nat.zero_le _, ⟨rfl⟩, HBZ, ⟨by simp⟩⟩
  case round =>
   obtain ⟨i, rfl, hi, HKQ, HBI, HFI⟩ := hrel; obtain ⟨HRN, HWN⟩ : zaa (RN w0 wr n0 g (.slice Av L.length cv) fi oe ne L Al cp l) ∧ zaa (Below w0.heap.size w0 wr) := ⟨⟨(HX0.out wr HBI.out).1⟩, ⟨(HX0.out wr HBI.out).2⟩⟩; have c0 := zae HRN.out.cur 0; have c1 := zae HRN.out.cur 1; have c2 := zae HRN.out.cur 2; have c3 := zae HRN.out.cur 3; have c4 := zae HRN.out.cur 4; have lg := zaM HRN.out.cur; simp at c0 c1 c2 c3 c4; by_cases hlt : i < L.length
   ·obtain ⟨x, hxe⟩ : ∃ x, x = L[i] := ⟨_, rfl⟩
    have hxi : L[i]? = some x := by rw [hxe]; exact List.getElem?_eq_getElem hlt
    obtain ⟨ada, e0, q0, qq⟩ := part_at (Kd.zbB HRN.out.row).2.2 i hlt x hxi; subst e0; obtain ⟨hxT, hx0, hx1, hx2⟩ := HLL.out x (by rw [hxe]; exact List.getElem_mem hlt)
    clear hxe; obtain ⟨⟨yk, yw, yd, yA, yc, yl⟩, pa, pn⟩ := x; simp only [AT.k, AT.w, AT.wd, AT.A, AT.c, AT.kids] at q0 hx0 hx1 hx2 hxT; have q1 := qq 1 _ (by decide) rfl
    have q2 := qq 2 _ (by decide) rfl
    have q3 := qq 3 _ (by decide) rfl
    have q4 := qq 4 _ (by decide) rfl
    have q5 := qq 5 _ (by decide) rfl
    simp only [AT.k, AT.w, AT.wd, AT.A, AT.c, AT.kids] at q1 q2 q3 q4 q5; have HXI := zaa.mk hxi; have HXT := zaa.mk hxT; clear hxi hxT qq; go_upto_region 10 with (fail)
    obtain ⟨Y, hY⟩ : ∃ V : World, V = wr.alloc (.cells #[.int .u8 yk, .int .u8 yw, .int .i64 yd, .slice yA yl.length yc, .int .i64 pa, .int .i64 pn] 90) := ⟨_, rfl⟩; change Code.wp Try.prog _ _ _ (wr.alloc (.cells #[.int .u8 yk, .int .u8 yw, .int .i64 yd, .slice yA yl.length yc, .int .i64 pa, .int .i64 pn] 90))
    have HBY := zaa.mk (show Below wr.heap.size wr Y by rw [hY]; exact zad (Below.refl _ _) _)
    have hpy : Y.heap[wr.heap.size]? = some (.cells #[.int .u8 yk, .int .u8 yw, .int .i64 yd, .slice yA yl.length yc, .int .i64 pa, .int .i64 pn] 90 (0, 0)) := by rw [hY]; exact heap_alloc_new _ _
    rw [← hY]; clear hY c0 c1 c2 c3 c4 lg q0 q1 q2 q3 q4 q5; have HPY := zaa.mk hpy; have HXY := zaa.mk (zan HBI.out (by have := HBY.out; exact this))
    have y0 := zae hpy 0; have y1 := zae hpy 1; have y2 := zae hpy 2; have y3 := zae hpy 3; have y4 := zae hpy 4; have y5 := zae hpy 5; have lY := zaM hpy; simp at y0 y1 y2 y3 y4 y5; clear hpy; by_cases e1 : pn = 0
    ·have HIT := zaa.mk (show hitB cl a (.node yk yw yd yA yc yl, pa, pn) = false by simp [hitB, e1])
     go_wp2
     go_roundg (L.length - (i + 1))
     case measure => have := HKQ.out; omega
     case rel => exact ⟨i + 1, by go_num, by omega, ⟨rfl⟩, ⟨HXY.out⟩, ⟨find_take HXI.out HFI.out (HIT.out)⟩⟩
    by_cases e2 : pa = a
    ·subst e2
     have hcall := of_calls yk yw yd yA yc yl.length cl Y; obtain ⟨ob, hob⟩ : ∃ ob, ob = decide (cl ∈ clsN yk) := ⟨_, rfl⟩; rw [← hob] at hcall; have HOB := zaa.mk hob; clear hob; cases ob with
     | false =>
      have HIT := zaa.mk (show hitB cl pa (.node yk yw yd yA yc yl, pa, pn) = false by have h : ¬ cl ∈ clsN yk := of_decide_eq_false HOB.out.symm; simp [hitB, AT.k, h])
      go_wp2_with (go_at_call 42; refine hcall.mono ?_; rintro e w5 ⟨rfl, hb5⟩; have HB5 := zaa.mk hb5; clear hb5 hcall)
      go_roundg (L.length - (i + 1))
      case measure => have := HKQ.out; omega
      case rel => exact ⟨i + 1, by go_num, by omega, ⟨rfl⟩, ⟨zan HXY.out HB5.out⟩, ⟨find_take HXI.out HFI.out (HIT.out)⟩⟩
     | true =>
      have HIT := zaa.mk (show hitB cl pa (.node yk yw yd yA yc yl, pa, pn) = true by have h : cl ∈ clsN yk := of_decide_eq_true HOB.out.symm; simp [hitB, AT.k, h, e1])
      have HTH := zaa.mk (show zbT fi oe ne L l cl at_ = if at_ < fi ∧ fi ≤ (bh l (pa + pn).toNat : Int) then none else some (.node yk yw yd yA yc yl, pn) by rw [HTE.out, find_hit HXI.out HFI.out HIT.out])
      go_upto_region 11 with (go_at_call 42; refine hcall.mono ?_; rintro e w5 ⟨rfl, hb5⟩; have HB5 := zaa.mk hb5; clear hb5 hcall)
      have hpv := zaU HPY.out HB5.out; have HX5 := zaa.mk (zan HXY.out HB5.out); have HRN5 := zaa.mk (HX0.out w5 HX5.out).1; clear y0 y1 y2 y3 y4 y5 lY; have y0 := zae hpv 0; have y1 := zae hpv 1; have y2 := zae hpv 2; have y3 := zae hpv 3; have y4 := zae hpv 4; have y5 := zae hpv 5; have lY := zaM hpv; simp at y0 y1 y2 y3 y4 y5; have c0 := zae HRN5.out.cur 0; have c1 := zae HRN5.out.cur 1; have c2 := zae HRN5.out.cur 2; have c3 := zae HRN5.out.cur 3; have c4 := zae HRN5.out.cur 4; have lg := zaM HRN5.out.cur; simp at c0 c1 c2 c3 c4; have HPV := zaa.mk hpv; clear hpv; have HT := zaa.mk (show zbT fi oe ne L l cl at_ = some (.node yk yw yd yA yc yl, pn) by rw [HTH.out, if_neg (fun h => by have h1 := h.1; have h2 := HNF.out; omega)])
      go_wp2
      go_quiet (fail)
      go_upto_region 13 with (fail)
      obtain ⟨V2, hV2⟩ : ∃ V : World, V = w5.drewN nq := ⟨_, rfl⟩; have HBV := zaa.mk (show Below X.heap.size X V2 by rw [hV2]; exact ⟨HX5.out.os, HX5.out.tape, HX5.out.output, HX5.out.size, HX5.out.block⟩)
      have HPN := zaa.mk (show V2.heap[wr.heap.size]? = some (.cells #[.int .u8 yk, .int .u8 yw, .int .i64 yd, .slice yA yl.length yc, .int .i64 pa, .int .i64 pn] 90 (0, 0)) by rw [hV2]; exact HPV.out)
      change Code.wp Try.prog _ _ _ (w5.drewN nq)
      rw [← hV2]; clear hV2 y0 y1 y2 y3 y4 y5 lY c0 c1 c2 c3 c4 lg; have hrn := (HBV.out.block _ (zaM HRX.out)).trans HRX.out; have p0 := zae hrn 0; have p1 := zae hrn 1; have p2 := zae hrn 2; have p3 := zae hrn 3; have f0 := zab hrn 0; have f1 := zab hrn 1; have f2 := zab hrn 2; have f3 := zab hrn 3; have lX := zaM hrn; simp at p0 p1 p2 p3; have HRN3 := zaa.mk hrn; clear hrn; have HZW := zaa.mk (show wr.heap.size ≠ W.heap.size by have := HBI.out.size; have := zaM HRX.out; omega)
      refine wp_region_noPanic (zbx [0, 1, 2, 3, 4, 5, 6] (fun W' => W'.heap[wr.heap.size]? = some (.cells #[.int .u8 yk, .int .u8 yw, .int .i64 yd, .slice yA yl.length yc, .int .i64 pa, .int .i64 pn] 90 (0, 0))) mixE ?_)
      refine zar 0 (v := ?_) HPN.out ?_ ?_
      rotate_left
      ·(intro W' hW'; have s0 := zae hW' 0; have s1 := zae hW' 1; have s2 := zae hW' 2; have s3 := zae hW' 3; have s4 := zae hW' 4; have s6 := zae hW' 5; have s5 := zaM hW'; simp at s0 s1 s2 s3 s4 s6; go_simp; try rfl)
      simp only [Act.put, zav]; refine zar 1 (v := ?_) HPN.out ?_ ?_
      rotate_left
      ·(intro W' hW'; have s0 := zae hW' 0; have s1 := zae hW' 1; have s2 := zae hW' 2; have s3 := zae hW' 3; have s4 := zae hW' 4; have s6 := zae hW' 5; have s5 := zaM hW'; simp at s0 s1 s2 s3 s4 s6; go_simp; try rfl)
      simp only [Act.put, zav]; refine zar 2 (v := ?_) HPN.out ?_ ?_
      rotate_left
      ·(intro W' hW'; have s0 := zae hW' 0; have s1 := zae hW' 1; have s2 := zae hW' 2; have s3 := zae hW' 3; have s4 := zae hW' 4; have s6 := zae hW' 5; have s5 := zaM hW'; simp at s0 s1 s2 s3 s4 s6; go_simp; try rfl)
      simp only [Act.put, zav]; refine zar 3 (v := ?_) HPN.out ?_ ?_
      rotate_left
      ·(intro W' hW'; have s0 := zae hW' 0; have s1 := zae hW' 1; have s2 := zae hW' 2; have s3 := zae hW' 3; have s4 := zae hW' 4; have s6 := zae hW' 5; have s5 := zaM hW'; simp at s0 s1 s2 s3 s4 s6; go_simp; try rfl)
      simp only [Act.put, zav]; refine zaX (i := 4) rfl (by kernel_rfl) (fun K hK => ?_)
      go_simp
      refine hK.out _ _ (fun _ => (zbD HZW.out _ _ _ _).trans HPN.out) (fun _ => ?_)
      clear hK K; refine zar 5 (v := ?_) ((zbD HZW.out _ _ _ _).trans HPN.out) ?_ ?_
      rotate_left
      ·(intro W' hW'; have s0 := zae hW' 0; have s1 := zae hW' 1; have s2 := zae hW' 2; have s3 := zae hW' 3; have s4 := zae hW' 4; have s6 := zae hW' 5; have s5 := zaM hW'; simp at s0 s1 s2 s3 s4 s6; go_simp; try rfl)
      simp only [Act.put, zav]; refine zar 6 (v := ?_) ((zbD HZW.out _ _ _ _).trans HPN.out) ?_ ?_
      rotate_left
      ·(intro W' hW'; have s0 := zae hW' 0; have s1 := zae hW' 1; have s2 := zae hW' 2; have s3 := zae hW' 3; have s4 := zae hW' 4; have s6 := zae hW' 5; have s5 := zaM hW'; simp at s0 s1 s2 s3 s4 s6; go_simp; try rfl)
      simp only [Act.put, zav]; refine zbd (by kernel_rfl) (NoPanic.normal ?_) _
      go_wp2
      refine bodyPost_ret (zbr rfl _ _ W.heap.size 27 _ (0, 0) _ rfl (zbY (w := V2.drew) HRN3.out _ _ _ _) Try.underlying27 rfl (by kernel_rfl)) rfl ?_
      exact SOME.out V2.drew (.node yk yw yd yA yc yl) pn ⟨HBV.out.os, HBV.out.tape, HBV.out.output, HBV.out.size, HBV.out.block⟩ HT.out
    ·have HIT := zaa.mk (show hitB cl a (.node yk yw yd yA yc yl, pa, pn) = false by simp [hitB, e2])
     have e3 : (pa == a) = false := by simpa using e2
     go_wp2
     go_roundg (L.length - (i + 1))
     case measure => have := HKQ.out; omega
     case rel => exact ⟨i + 1, by go_num, by omega, ⟨rfl⟩, ⟨HXY.out⟩, ⟨find_take HXI.out HFI.out (HIT.out)⟩⟩
   ·obtain rfl : i = L.length := by omega
    have HT := zaa.mk (show zbT fi oe ne L l cl at_ = none by have := HFI.out; rw [List.take_length] at this; rw [HTE.out, this])
    have hrn := (HBI.out.block _ (zaM HRX.out)).trans HRX.out; have p0 := zae hrn 0; have p1 := zae hrn 1; have p2 := zae hrn 2; have p3 := zae hrn 3; have f0 := zab hrn 0; have f1 := zab hrn 1; have f2 := zab hrn 2; have f3 := zab hrn 3; have lX := zaM hrn; simp at p0 p1 p2 p3; have HRN2 := zaa.mk hrn; clear hrn; go_wp2
    refine bodyPost_ret (zbr rfl _ _ W.heap.size 27 _ (0, 0) _ rfl (zbY HRN2.out _ _ _ _) Try.underlying27 rfl (by kernel_rfl)) rfl ?_
    exact NONE.out _ HBI.out HT.out
 ·obtain ⟨a, ha⟩ : ∃ a, a = at_ := ⟨_, rfl⟩
  have HTE := zaa.mk (show zbT fi oe ne L l cl at_ = match L.find? (hitB cl a) with | none => none | some x => if at_ < fi ∧ fi ≤ (bh l (x.2.1 + x.2.2).toNat : Int) then none else some (x.1, x.2.2) by unfold zbT; rw [if_neg (by omega), if_neg h2, ha])
  have hdf : decide (at_ < fi) = true := decide_eq_true (by omega)
  have HNF := zaa.mk (show at_ < fi by omega)
  go_upto_region 7 with (fail)
  obtain rfl := ha; obtain ⟨Z, hZ⟩ : ∃ V : World, V = X := ⟨_, rfl⟩; have HBZ := zaa.mk (show Below X.heap.size X Z by rw [hZ]; exact ⟨rfl, rfl, rfl, Nat.le_refl _, fun _ _ => rfl⟩)
  rw [← hZ]; clear hZ c0 c1 c2 c3 c4 lg p0 p1 p2 p3 f0 f1 f2 f3 lX; have HX0 := zaa.mk (show ∀ w', Below X.heap.size X w' → RN w0 w' n0 g (.slice Av L.length cv) fi oe ne L Al cp l ∧ Below w0.heap.size w0 w' from fun w' h => ⟨HC.out.below h, zan HW0.out h⟩)
  go_loopg [10] L.length (fun kq v10 w' => ∃ (i : Nat), v10 = .int .i64 i ∧ i ≤ L.length ∧ zaa (kq = L.length - i) ∧ zaa (Below X.heap.size X w') ∧ zaa ((L.take i).find? (hitB cl a) = none))
  case atStart => exact ⟨0, rfl, Nat.zero_le _, ⟨rfl⟩, HBZ, ⟨by simp⟩⟩
  case round =>
   obtain ⟨i, rfl, hi, HKQ, HBI, HFI⟩ := hrel; obtain ⟨HRN, HWN⟩ : zaa (RN w0 wr n0 g (.slice Av L.length cv) fi oe ne L Al cp l) ∧ zaa (Below w0.heap.size w0 wr) := ⟨⟨(HX0.out wr HBI.out).1⟩, ⟨(HX0.out wr HBI.out).2⟩⟩; have c0 := zae HRN.out.cur 0; have c1 := zae HRN.out.cur 1; have c2 := zae HRN.out.cur 2; have c3 := zae HRN.out.cur 3; have c4 := zae HRN.out.cur 4; have lg := zaM HRN.out.cur; simp at c0 c1 c2 c3 c4; by_cases hlt : i < L.length
   ·obtain ⟨x, hxe⟩ : ∃ x, x = L[i] := ⟨_, rfl⟩
    have hxi : L[i]? = some x := by rw [hxe]; exact List.getElem?_eq_getElem hlt
    obtain ⟨ada, e0, q0, qq⟩ := part_at (Kd.zbB HRN.out.row).2.2 i hlt x hxi; subst e0; obtain ⟨hxT, hx0, hx1, hx2⟩ := HLL.out x (by rw [hxe]; exact List.getElem_mem hlt)
    clear hxe; obtain ⟨⟨yk, yw, yd, yA, yc, yl⟩, pa, pn⟩ := x; simp only [AT.k, AT.w, AT.wd, AT.A, AT.c, AT.kids] at q0 hx0 hx1 hx2 hxT; have q1 := qq 1 _ (by decide) rfl
    have q2 := qq 2 _ (by decide) rfl
    have q3 := qq 3 _ (by decide) rfl
    have q4 := qq 4 _ (by decide) rfl
    have q5 := qq 5 _ (by decide) rfl
    simp only [AT.k, AT.w, AT.wd, AT.A, AT.c, AT.kids] at q1 q2 q3 q4 q5; have HXI := zaa.mk hxi; have HXT := zaa.mk hxT; clear hxi hxT qq; go_upto_region 10 with (fail)
    obtain ⟨Y, hY⟩ : ∃ V : World, V = wr.alloc (.cells #[.int .u8 yk, .int .u8 yw, .int .i64 yd, .slice yA yl.length yc, .int .i64 pa, .int .i64 pn] 90) := ⟨_, rfl⟩; change Code.wp Try.prog _ _ _ (wr.alloc (.cells #[.int .u8 yk, .int .u8 yw, .int .i64 yd, .slice yA yl.length yc, .int .i64 pa, .int .i64 pn] 90))
    have HBY := zaa.mk (show Below wr.heap.size wr Y by rw [hY]; exact zad (Below.refl _ _) _)
    have hpy : Y.heap[wr.heap.size]? = some (.cells #[.int .u8 yk, .int .u8 yw, .int .i64 yd, .slice yA yl.length yc, .int .i64 pa, .int .i64 pn] 90 (0, 0)) := by rw [hY]; exact heap_alloc_new _ _
    rw [← hY]; clear hY c0 c1 c2 c3 c4 lg q0 q1 q2 q3 q4 q5; have HPY := zaa.mk hpy; have HXY := zaa.mk (zan HBI.out (by have := HBY.out; exact this))
    have y0 := zae hpy 0; have y1 := zae hpy 1; have y2 := zae hpy 2; have y3 := zae hpy 3; have y4 := zae hpy 4; have y5 := zae hpy 5; have lY := zaM hpy; simp at y0 y1 y2 y3 y4 y5; clear hpy; by_cases e1 : pn = 0
    ·have HIT := zaa.mk (show hitB cl a (.node yk yw yd yA yc yl, pa, pn) = false by simp [hitB, e1])
     go_wp2
     go_roundg (L.length - (i + 1))
     case measure => have := HKQ.out; omega
     case rel => exact ⟨i + 1, by go_num, by omega, ⟨rfl⟩, ⟨HXY.out⟩, ⟨find_take HXI.out HFI.out (HIT.out)⟩⟩
    by_cases e2 : pa = a
    ·subst e2
     have hcall := of_calls yk yw yd yA yc yl.length cl Y; obtain ⟨ob, hob⟩ : ∃ ob, ob = decide (cl ∈ clsN yk) := ⟨_, rfl⟩; rw [← hob] at hcall; have HOB := zaa.mk hob; clear hob; cases ob with
     | false =>
      have HIT := zaa.mk (show hitB cl pa (.node yk yw yd yA yc yl, pa, pn) = false by have h : ¬ cl ∈ clsN yk := of_decide_eq_false HOB.out.symm; simp [hitB, AT.k, h])
      go_wp2_with (go_at_call 42; refine hcall.mono ?_; rintro e w5 ⟨rfl, hb5⟩; have HB5 := zaa.mk hb5; clear hb5 hcall)
      go_roundg (L.length - (i + 1))
      case measure => have := HKQ.out; omega
      case rel => exact ⟨i + 1, by go_num, by omega, ⟨rfl⟩, ⟨zan HXY.out HB5.out⟩, ⟨find_take HXI.out HFI.out (HIT.out)⟩⟩
     | true =>
      have HIT := zaa.mk (show hitB cl pa (.node yk yw yd yA yc yl, pa, pn) = true by have h : cl ∈ clsN yk := of_decide_eq_true HOB.out.symm; simp [hitB, AT.k, h, e1])
      have HTH := zaa.mk (show zbT fi oe ne L l cl pa = if pa < fi ∧ fi ≤ (bh l (pa + pn).toNat : Int) then none else some (.node yk yw yd yA yc yl, pn) by rw [HTE.out, find_hit HXI.out HFI.out HIT.out])
      go_upto_region 11 with (go_at_call 42; refine hcall.mono ?_; rintro e w5 ⟨rfl, hb5⟩; have HB5 := zaa.mk hb5; clear hb5 hcall)
      have hpv := zaU HPY.out HB5.out; have HX5 := zaa.mk (zan HXY.out HB5.out); have HRN5 := zaa.mk (HX0.out w5 HX5.out).1; clear y0 y1 y2 y3 y4 y5 lY; have y0 := zae hpv 0; have y1 := zae hpv 1; have y2 := zae hpv 2; have y3 := zae hpv 3; have y4 := zae hpv 4; have y5 := zae hpv 5; have lY := zaM hpv; simp at y0 y1 y2 y3 y4 y5; have c0 := zae HRN5.out.cur 0; have c1 := zae HRN5.out.cur 1; have c2 := zae HRN5.out.cur 2; have c3 := zae HRN5.out.cur 3; have c4 := zae HRN5.out.cur 4; have lg := zaM HRN5.out.cur; simp at c0 c1 c2 c3 c4; have HPV := zaa.mk hpv; clear hpv; obtain ⟨kn, hkn⟩ := next_bh l HKK.out hl (pa + pn).toNat (by omega)
      have hnx := hkn kn (Nat.le_refl _); rw [Int.toNat_of_nonneg (show 0 ≤ pa + pn by omega)] at hnx
      obtain ⟨nb, hnb⟩ : ∃ nb, nb = (bh l (pa + pn).toNat : Int) := ⟨_, rfl⟩; rw [← hnb] at hnx HTH; have HNX := zaa.mk hnx; have hwp : IntKind.i64.wrap (pa + pn) = pa + pn := IntWalk.i64_in _ ⟨by omega, by omega⟩
      clear hnb hkn hnx; by_cases h5 : fi ≤ nb
      ·have hd5 : decide (fi ≤ nb) = true := decide_eq_true h5
       have HT := zaa.mk (show zbT fi oe ne L l cl pa = none by rw [HTH.out, if_pos ⟨HNF.out, h5⟩])
       go_wp2
       go_quiet ((refine Calls.quiet_of (v := .int .i64 nb) (Calls.mono (zaz.calls kn Al cp l (pa + pn) nb _ ?_ HCP.out HNX.out) ?_); (exact Kd.za4 HRN5.out.toks ⟨rfl, rfl, rfl, Nat.le_refl _, fun _ _ => rfl⟩); (exact fun e w' h => ⟨h.1, h.2.out⟩)))
       have HBN := zaa.mk (show Below X.heap.size X (w5.drewN nq) from ⟨HX5.out.os, HX5.out.tape, HX5.out.output, HX5.out.size, HX5.out.block⟩)
       have hrn := (HBN.out.block _ (zaM HRX.out)).trans HRX.out; have p0 := zae hrn 0; have p1 := zae hrn 1; have p2 := zae hrn 2; have p3 := zae hrn 3; have f0 := zab hrn 0; have f1 := zab hrn 1; have f2 := zab hrn 2; have f3 := zab hrn 3; have lX := zaM hrn; simp at p0 p1 p2 p3; have HRN3 := zaa.mk hrn; clear hrn; go_wp2
       refine bodyPost_ret (zbr rfl _ _ W.heap.size 27 _ (0, 0) _ rfl (zbY HRN3.out _ _ _ _) Try.underlying27 rfl (by kernel_rfl)) rfl ?_
       exact NONE.out _ HBN.out HT.out
      ·have hd5 : decide (fi ≤ nb) = false := decide_eq_false h5
       have HT := zaa.mk (show zbT fi oe ne L l cl pa = some (.node yk yw yd yA yc yl, pn) by rw [HTH.out, if_neg (fun h => h5 h.2)])
       go_wp2
       go_quiet ((refine Calls.quiet_of (v := .int .i64 nb) (Calls.mono (zaz.calls kn Al cp l (pa + pn) nb _ ?_ HCP.out HNX.out) ?_); (exact Kd.za4 HRN5.out.toks ⟨rfl, rfl, rfl, Nat.le_refl _, fun _ _ => rfl⟩); (exact fun e w' h => ⟨h.1, h.2.out⟩)))
       have HBN := zaa.mk (show Below X.heap.size X (w5.drewN nq) from ⟨HX5.out.os, HX5.out.tape, HX5.out.output, HX5.out.size, HX5.out.block⟩)
       go_upto_region 13 with (fail)
       obtain ⟨V2, hV2⟩ : ∃ V : World, V = w5.drewN nq := ⟨_, rfl⟩; have HBV := zaa.mk (show Below X.heap.size X V2 by rw [hV2]; exact ⟨HX5.out.os, HX5.out.tape, HX5.out.output, HX5.out.size, HX5.out.block⟩)
       have HPN := zaa.mk (show V2.heap[wr.heap.size]? = some (.cells #[.int .u8 yk, .int .u8 yw, .int .i64 yd, .slice yA yl.length yc, .int .i64 pa, .int .i64 pn] 90 (0, 0)) by rw [hV2]; exact HPV.out)
       change Code.wp Try.prog _ _ _ (w5.drewN nq)
       rw [← hV2]; clear hV2 y0 y1 y2 y3 y4 y5 lY c0 c1 c2 c3 c4 lg; have hrn := (HBV.out.block _ (zaM HRX.out)).trans HRX.out; have p0 := zae hrn 0; have p1 := zae hrn 1; have p2 := zae hrn 2; have p3 := zae hrn 3; have f0 := zab hrn 0; have f1 := zab hrn 1; have f2 := zab hrn 2; have f3 := zab hrn 3; have lX := zaM hrn; simp at p0 p1 p2 p3; have HRN3 := zaa.mk hrn; clear hrn; have HZW := zaa.mk (show wr.heap.size ≠ W.heap.size by have := HBI.out.size; have := zaM HRX.out; omega)
       refine wp_region_noPanic (zbx [0, 1, 2, 3, 4, 5, 6] (fun W' => W'.heap[wr.heap.size]? = some (.cells #[.int .u8 yk, .int .u8 yw, .int .i64 yd, .slice yA yl.length yc, .int .i64 pa, .int .i64 pn] 90 (0, 0))) mixE ?_)
       refine zar 0 (v := ?_) HPN.out ?_ ?_
       rotate_left
       ·(intro W' hW'; have s0 := zae hW' 0; have s1 := zae hW' 1; have s2 := zae hW' 2; have s3 := zae hW' 3; have s4 := zae hW' 4; have s6 := zae hW' 5; have s5 := zaM hW'; simp at s0 s1 s2 s3 s4 s6; go_simp; try rfl)
       simp only [Act.put, zav]; refine zar 1 (v := ?_) HPN.out ?_ ?_
       rotate_left
       ·(intro W' hW'; have s0 := zae hW' 0; have s1 := zae hW' 1; have s2 := zae hW' 2; have s3 := zae hW' 3; have s4 := zae hW' 4; have s6 := zae hW' 5; have s5 := zaM hW'; simp at s0 s1 s2 s3 s4 s6; go_simp; try rfl)
       simp only [Act.put, zav]; refine zar 2 (v := ?_) HPN.out ?_ ?_
       rotate_left
       ·(intro W' hW'; have s0 := zae hW' 0; have s1 := zae hW' 1; have s2 := zae hW' 2; have s3 := zae hW' 3; have s4 := zae hW' 4; have s6 := zae hW' 5; have s5 := zaM hW'; simp at s0 s1 s2 s3 s4 s6; go_simp; try rfl)
       simp only [Act.put, zav]; refine zar 3 (v := ?_) HPN.out ?_ ?_
       rotate_left
       ·(intro W' hW'; have s0 := zae hW' 0; have s1 := zae hW' 1; have s2 := zae hW' 2; have s3 := zae hW' 3; have s4 := zae hW' 4; have s6 := zae hW' 5; have s5 := zaM hW'; simp at s0 s1 s2 s3 s4 s6; go_simp; try rfl)
       simp only [Act.put, zav]; refine zaX (i := 4) rfl (by kernel_rfl) (fun K hK => ?_)
       go_simp
       refine hK.out _ _ (fun _ => (zbD HZW.out _ _ _ _).trans HPN.out) (fun _ => ?_)
       clear hK K; refine zar 5 (v := ?_) ((zbD HZW.out _ _ _ _).trans HPN.out) ?_ ?_
       rotate_left
       ·(intro W' hW'; have s0 := zae hW' 0; have s1 := zae hW' 1; have s2 := zae hW' 2; have s3 := zae hW' 3; have s4 := zae hW' 4; have s6 := zae hW' 5; have s5 := zaM hW'; simp at s0 s1 s2 s3 s4 s6; go_simp; try rfl)
       simp only [Act.put, zav]; refine zar 6 (v := ?_) ((zbD HZW.out _ _ _ _).trans HPN.out) ?_ ?_
       rotate_left
       ·(intro W' hW'; have s0 := zae hW' 0; have s1 := zae hW' 1; have s2 := zae hW' 2; have s3 := zae hW' 3; have s4 := zae hW' 4; have s6 := zae hW' 5; have s5 := zaM hW'; simp at s0 s1 s2 s3 s4 s6; go_simp; try rfl)
       simp only [Act.put, zav]; refine zbd (by kernel_rfl) (NoPanic.normal ?_) _
       go_wp2
       refine bodyPost_ret (zbr rfl _ _ W.heap.size 27 _ (0, 0) _ rfl (zbY (w := V2.drew) HRN3.out _ _ _ _) Try.underlying27 rfl (by kernel_rfl)) rfl ?_
       exact SOME.out V2.drew (.node yk yw yd yA yc yl) pn ⟨HBV.out.os, HBV.out.tape, HBV.out.output, HBV.out.size, HBV.out.block⟩ HT.out
    ·have HIT := zaa.mk (show hitB cl a (.node yk yw yd yA yc yl, pa, pn) = false by simp [hitB, e2])
     have e3 : (pa == a) = false := by simpa using e2
     go_wp2
     go_roundg (L.length - (i + 1))
     case measure => have := HKQ.out; omega
     case rel => exact ⟨i + 1, by go_num, by omega, ⟨rfl⟩, ⟨HXY.out⟩, ⟨find_take HXI.out HFI.out (HIT.out)⟩⟩
   ·obtain rfl : i = L.length := by omega
    have HT := zaa.mk (show zbT fi oe ne L l cl a = none by have := HFI.out; rw [List.take_length] at this; rw [HTE.out, this])
    have hrn := (HBI.out.block _ (zaM HRX.out)).trans HRX.out; have p0 := zae hrn 0; have p1 := zae hrn 1; have p2 := zae hrn 2; have p3 := zae hrn 3; have f0 := zab hrn 0; have f1 := zab hrn 1; have f2 := zab hrn 2; have f3 := zab hrn 3; have lX := zaM hrn; simp at p0 p1 p2 p3; have HRN2 := zaa.mk hrn; clear hrn; go_wp2
    refine bodyPost_ret (zbr rfl _ _ W.heap.size 27 _ (0, 0) _ rfl (zbY HRN2.out _ _ _ _) Try.underlying27 rfl (by kernel_rfl)) rfl ?_
    exact NONE.out _ HBI.out HT.out
mutual
theorem partsT_zero : ∀ (T : AT) (at_ : Int), cntT T = 0 → ∀ x ∈ zbL T at_, x.2.2 = 0
 | .node k w wd A c kids, at_, h, x, hx => by
  simp only [cntT] at h; simp only [zbL] at hx; by_cases hk : k < 50
  ·rw [if_pos hk] at h; omega
  ·rw [if_neg hk] at h hx
   rcases List.mem_cons.1 hx with rfl | hx
   ·exact h
   ·exact partsL_zero kids at_ h x hx
theorem partsL_zero : ∀ (l : List AT) (at_ : Int), cntL l = 0 → ∀ x ∈ zbR l at_, x.2.2 = 0
 | [], at_, h, x, hx => by simp [zbR] at hx
 | T :: r, at_, h, x, hx => by
  have h1 := cntT_le T; have h2 := cntL_le r; simp only [cntL] at h; simp only [zbR, List.mem_append] at hx; rcases hx with hx | hx
  ·exact partsT_zero T at_ (by omega) x hx
  ·exact partsL_zero r _ (by omega) x hx
end
mutual
theorem partsT_at : ∀ (T : AT) (at_ : Int), ∀ x ∈ zbL T at_, at_ ≤ x.2.1 ∧ 0 ≤ x.2.2 ∧ x.2.1 + x.2.2 ≤ at_ + cntT T
 | .node k w wd A c kids, at_, x, hx => by
  have h1 := cntL_le kids; simp only [zbL] at hx; simp only [cntT]; by_cases hk : k < 50
  ·rw [if_pos hk] at hx; simp at hx
  ·rw [if_neg hk] at hx ⊢
   rcases List.mem_cons.1 hx with rfl | hx
   ·simp only; omega
   ·exact partsL_at kids at_ x hx
theorem partsL_at : ∀ (l : List AT) (at_ : Int), ∀ x ∈ zbR l at_, at_ ≤ x.2.1 ∧ 0 ≤ x.2.2 ∧ x.2.1 + x.2.2 ≤ at_ + cntL l
 | [], at_, x, hx => by simp [zbR] at hx
 | T :: r, at_, x, hx => by
  have h1 := cntT_le T; have h2 := cntL_le r; simp only [cntL]; simp only [zbR, List.mem_append] at hx; rcases hx with hx | hx
  ·have := partsT_at T at_ x hx; omega
  ·have := partsL_at r _ x hx; omega
end
mutual
theorem partsT_mem {W : World} : ∀ (T : AT) (at_ : Int), AtT W T → ∀ x ∈ zbL T at_, AtT W x.1
 | .node k w wd A c kids, at_, h, x, hx => by
  simp only [zbL] at hx; by_cases hk : k < 50
  ·rw [if_pos hk] at hx; simp at hx
  ·rw [if_neg hk] at hx
   rcases List.mem_cons.1 hx with rfl | hx
   ·exact h
   ·simp only [AtT] at h
    rcases h.2.2 with e | ⟨ad, _, hl⟩
    ·subst e; simp [zbR] at hx
    ·exact partsL_mem kids at_ ad 0 hl x hx
theorem partsL_mem {W : World} : ∀ (l : List AT) (at_ : Int) (ad : Addr) (i : Nat), AtL W ad i l → ∀ x ∈ zbR l at_, AtT W x.1
 | [], at_, ad, i, h, x, hx => by simp [zbR] at hx
 | T :: r, at_, ad, i, h, x, hx => by
  simp only [AtL] at h; simp only [zbR, List.mem_append] at hx; rcases hx with hx | hx
  ·exact partsT_mem T at_ h.1.2 x hx
  ·exact partsL_mem r _ ad (i + 1) h.2 x hx
end
def orP (o : Option (AT × Int)) (p : Option Part3) : Option (AT × Int) := match o with | some v => some v | none => p.map fun x => (x.1, x.2.2)
theorem find_none {cl a : Int} {L : List Part3} (h : ∀ x ∈ L, x.2.2 = 0) : L.find? (hitB cl a) = none := by
 rw [List.find?_eq_none]; intro x hx
 simp [hitB, h x hx]
mutual
theorem addT_look : ∀ (T : AT) (at_ : Int) (M : PMap) (cl a : Int), addT T at_ M (cl, a) = orP (M (cl, a)) ((zbL T at_).find? (hitB cl a))
 | .node k w wd A c kids, at_, M, cl, a => by
  simp only [addT, zbL]; by_cases hk : k < 50
  ·rw [if_pos hk, if_pos hk]
   unfold orP
   cases M (cl, a) <;> rfl
  rw [if_neg hk, if_neg hk]; have ih := addL_look kids at_ (setM M (ahN k at_ M) at_ (some nilA)) cl a; by_cases hh : a = at_ ∧ cl ∈ ahN k at_ M
  ·obtain ⟨rfl, hc⟩ := hh
   have hc2 := hc; unfold ahN at hc2
   rw [List.mem_filter] at hc2; have hM : M (cl, a) = none := by simpa using hc2.2
   rw [setM]; simp only []; rw [if_pos ⟨trivial, hc⟩, hM]; unfold orP
   by_cases h0 : cntL kids = 0
   ·rw [if_pos h0, find_none]
    ·rfl
    ·intro x hx
     rcases List.mem_cons.1 hx with rfl | hx
     ·exact h0
     ·exact partsL_zero kids a h0 x hx
   ·rw [if_neg h0, List.find?_cons_of_pos (by simp [hitB, h0, AT.k, hc2.1])]
    rfl
  ·rw [setM]
   simp only []; rw [if_neg hh, ih, setM]; simp only []; rw [if_neg hh]; cases hM : M (cl, a) with
   | some v => rfl
   | none =>
    unfold orP
    rw [List.find?_cons_of_neg]; intro hb
    simp only [hitB, AT.k, Bool.and_eq_true, decide_eq_true_eq] at hb; obtain ⟨⟨hb1, hb2⟩, hb3⟩ := hb; subst hb2; exact hh ⟨rfl, by unfold ahN; rw [List.mem_filter]; exact ⟨by first | exact hb3 | exact of_decide_eq_true hb3, by rw [hM]; rfl⟩⟩
theorem addL_look : ∀ (l : List AT) (at_ : Int) (M : PMap) (cl a : Int), addL l at_ M (cl, a) = orP (M (cl, a)) ((zbR l at_).find? (hitB cl a))
 | [], at_, M, cl, a => by
  simp only [addL, zbR]; unfold orP
  cases M (cl, a) <;> rfl
 | T :: r, at_, M, cl, a => by
  simp only [addL, zbR]; rw [addL_look r _ _ cl a, addT_look T at_ M cl a, List.find?_append]; unfold orP
  cases M (cl, a) with
  | some v => rfl
  | none => cases (zbL T at_).find? (hitB cl a) <;> rfl
end
mutual
theorem cnt_pre : ∀ (T : AT) (f d : Int), goodT T.erase → (((preT T.erase f d).countP fun x => decide (x.1.f0 < 50) : Nat) : Int) = cntT T
 | .node k w wd A c kids, f, d, h => by
  simp only [AT.erase, goodT] at h; simp only [AT.erase, preT, cntT, List.countP_cons]; have ih := cnt_preL kids f d h.2.2.2.2; by_cases hk : k < 50
  ·have hn := h.2.1 (by omega)
   have hn2 : kids = [] := by
    have := zbl kids; rw [hn] at this; exact List.length_eq_zero_iff.1 this.symm
   subst hn2; simp [hk, zbN, preTL]
  ·rw [if_neg hk]
   simp [hk]; exact ih
theorem cnt_preL : ∀ (l : List AT) (f d : Int), goodL (zbN l) → (((preTL (zbN l) f d).countP fun x => decide (x.1.f0 < 50) : Nat) : Int) = cntL l
 | [], f, d, h => by simp [zbN, preTL, cntL]
 | T :: r, f, d, h => by
  simp only [zbN, goodL] at h; simp only [zbN, preTL, cntL, List.countP_append]; have h1 := cnt_pre T f (wrap64 (d + 1)) h.1; have h2 := cnt_preL r (wrap64 (f + T.erase.f2)) d h.2; omega
end
theorem filt_count (xs : List (S27 × Int × Int)) : (filt (leavesS xs)).length = xs.countP fun x => decide (x.1.f0 < 50) := by
 induction xs with
 | nil => rfl
 | cons x r ih =>
  unfold leavesS filt at ih ⊢
  rw [List.countP_cons, ← ih, List.filter_cons]; by_cases h1 : x.1.f0 ≤ 50
  ·rw [if_pos (decide_eq_true h1), List.map_cons, List.filter_cons]
   by_cases h2 : x.1.f0 = 50
   ·simp [h2]
   ·have h3 : x.1.f0 < 50 := by omega
    simp [h2, h3]
  ·rw [if_neg (by simpa using h1)]
   have h3 : ¬ x.1.f0 < 50 := by omega
   simp [h3]
theorem cnt_fits (T : AT) (hb : byteT T.erase) (l : List S39) (h : fitsT T.erase l = true) : cntT T = l.length := by
 unfold fitsT fitsB at h
 simp only [Bool.and_eq_true, decide_eq_true_eq] at h; obtain ⟨ho, hl, _⟩ := h; rw [filt_count] at hl; unfold allT at hl
 rw [if_pos ho] at hl; have := cnt_pre T 0 0 (ok_good _ hb ho); omega
structure TakeOk (W : World) (T : AT) (n : Nat) : Prop where
 parts : ∀ x ∈ zbL T 0, AtT W x.1 ∧ 0 ≤ x.2.1 ∧ 0 ≤ x.2.2 ∧ x.2.1 + x.2.2 ≤ n
 map : ∀ s T' m, addT T 0 (fun _ => none) s = some (T', m) → 0 ≤ m ∧ 0 ≤ s.2 ∧ s.2 + m < (n + 1 : Nat)
theorem orP_none {p : Option Part3} : orP none p = p.map fun x => (x.1, x.2.2) := rfl
theorem take_ok {W : World} {T : AT} {n : Nat} (h : AtT W T) (hn : cntT T = n) : TakeOk W T n := by
 have hp : ∀ x ∈ zbL T 0, AtT W x.1 ∧ 0 ≤ x.2.1 ∧ 0 ≤ x.2.2 ∧ x.2.1 + x.2.2 ≤ n := fun x hx => by
  have := partsT_at T 0 x hx; exact ⟨partsT_mem T 0 h x hx, by omega, by omega, by omega⟩
 refine ⟨hp, fun s T' m hs => ?_⟩
 obtain ⟨cl, a⟩ := s; rw [addT_look, orP_none] at hs; cases hf : (zbL T 0).find? (hitB cl a) with
 | none => rw [hf] at hs; cases hs
 | some x =>
  rw [hf] at hs; simp only [Option.map_some, Option.some.injEq, Prod.mk.injEq] at hs; have hx := hp x (List.mem_of_find?_eq_some hf); have hb := List.find?_some hf; simp only [hitB, Bool.and_eq_true, decide_eq_true_eq] at hb; obtain ⟨⟨_, hb2⟩, _⟩ := hb; simp only; omega
theorem take_same {W : World} {T : AT} {l : List S39} (hk : TakeOk W T l.length) (hl : l.length ≤ 1000000) {xs : List Int} (hx : xs.length = l.length + 1) (hb : ∀ j, j ≤ l.length → xs.getD j 0 = (bh l j : Int)) {fi oe ne : Int} (hfi : 0 ≤ fi ∧ fi ≤ ne ∧ ne ≤ 1048576 ∧ 0 ≤ oe ∧ oe ≤ 1000000) (cl at_ : Int) (hat : inI at_) :
  takeF fi oe ne (addT T 0 fun _ => none) xs cl at_ = zbT fi oe ne (zbL T 0) l cl at_ := by
 unfold inI at hat
 unfold takeF zbT
 by_cases h1 : at_ < 0
 ·rw [if_pos h1, if_pos (.inl h1)]
 rw [if_neg h1]; by_cases h2 : fi ≤ at_
 ·rw [if_pos h2, if_pos h2]
  by_cases h3 : at_ < ne
  ·rw [if_pos (.inl h3), if_pos (.inr ⟨h2, h3⟩)]
  rw [if_neg (show ¬ (at_ < 0 ∨ fi ≤ at_ ∧ at_ < ne) by omega)]
  have hno : ∀ a, (a < 0 ∨ (l.length : Int) < a) → (zbL T 0).find? (hitB cl a) = none := by
   intro a ha
   rw [List.find?_eq_none]; intro x hx hh
   have := hk.parts x hx; simp only [hitB, Bool.and_eq_true, decide_eq_true_eq] at hh; obtain ⟨⟨_, hh2⟩, _⟩ := hh; omega
  by_cases h4 : (xs.length : Int) < at_ - ne
  ·rw [if_pos (.inr h4), hno]
   by_cases h5 : at_ - ne + oe ≤ 9223372036854775807
   ·rw [IntWalk.i64_in _ ⟨by omega, by omega⟩]
    right; omega
   ·left
    rw [IntKind.wrap_i64]; omega
  ·rw [if_neg (by omega), IntWalk.i64_in _ ⟨by omega, by omega⟩, addT_look, orP_none]
   cases (zbL T 0).find? (hitB cl (at_ - ne + oe)) with
   | none => rfl
   | some x => simp only [Option.map_some]; rw [if_neg (by omega)]
 ·rw [if_neg h2, if_neg h2, if_neg (by omega), addT_look, orP_none]
  cases hf : (zbL T 0).find? (hitB cl at_) with
  | none => rfl
  | some x =>
   have hxm := hk.parts x (List.mem_of_find?_eq_some hf); have hh := List.find?_some hf; simp only [hitB, Bool.and_eq_true, decide_eq_true_eq] at hh; obtain ⟨⟨_, hh2⟩, _⟩ := hh; simp only [Option.map_some]; rw [hb _ (by omega), hh2]
   by_cases h5 : fi ≤ (bh l (at_ + x.2.2).toNat : Int)
   ·rw [if_pos h5, if_pos ⟨by omega, h5⟩]
   ·rw [if_neg h5, if_neg (fun h => h5 h.2)]
set_option maxRecDepth 100000 in
theorem ctaken_calls {w0 W : World} {n0 g b r cap : Nat} {fi oe ne tk : Int} {nm : Nat} {M : PMap} {xs : List Int} (h : CN w0 W n0 g b r cap fi oe ne tk nm M xs) :
  Calls Try.prog 17 #[.pointer (some ⟨g, 0, none⟩)] W fun e W' => e = .returned (.int .i64 tk) ∧ Below W.heap.size W W' := by
 obtain ⟨c0, c1, c2, c3, c4, c5⟩ := h.cells; have lg := zaM h.cur; have huc := Try.underlying77; clear h; go_enter Try.func17, Try.ntmps17
 go_wp2
 go_ret
 exact ⟨rfl, Below.refl _ _⟩
def nodeQ : Option (AT × Int) → AT
 | none => .node 0 0 0 none 0 []
 | some x => x.1
def cntO : Option (AT × Int) → Int
 | none => 0
 | some x => x.2
theorem TakePost.one {w0 W : World} {n0 g b r cap : Nat} {fi oe ne tk : Int} {nm : Nat} {M : PMap} {xs : List Int} {o : Option (AT × Int)} {e : Ending} {W' : World} (h : TakePost w0 W n0 g b r cap fi oe ne tk nm M xs o e W') : W.grownBy W' (some g) ∧ e = .returned (.tuple #[(nodeQ o).val, .int .i64 (cntO o), .bool o.isSome]) ∧ CN w0 W' n0 g b r cap fi oe ne (if o.isSome then tk + 1 else tk) nm M xs := by
 obtain ⟨h1, h2⟩ := h; refine ⟨h1, ?_⟩
 rcases h2 with ⟨rfl, rfl, h⟩ | ⟨T, n, rfl, rfl, h⟩
 ·exact ⟨rfl, h⟩
 ·exact ⟨rfl, h⟩
theorem RTakePost.one {w0 W : World} {n0 g : Nat} {v : Value} {fi oe ne : Int} {L : List Part3} {Al : Option Addr} {cl : Nat} {l : List S39} {o : Option (AT × Int)} {e : Ending} {W' : World} (h : RTakePost w0 W n0 g v fi oe ne L Al cl l o e W') : Below W.heap.size W W' ∧ e = .returned (.tuple #[(nodeQ o).val, .int .i64 (cntO o), .bool o.isSome]) := by
 obtain ⟨h1, h2⟩ := h; refine ⟨h1, ?_⟩
 rcases h2 with ⟨rfl, rfl⟩ | ⟨T, n, rfl, rfl⟩
 ·rfl
 ·rfl
theorem RN.now {w0 w : World} {n0 g : Nat} {v : Value} {fi oe ne : Int} {L : List Part3} {Al : Option Addr} {cl : Nat} {l : List S39} (h : RN w0 w n0 g v fi oe ne L Al cl l) : RN w w n0 g v fi oe ne L Al cl l :=
 ⟨Below.refl _ _, h.cur, h.row, h.toks, h.n1⟩
theorem RN.next {w0 w w' : World} {n0 g q : Nat} {v : Value} {fi oe ne : Int} {L : List Part3} {Al : Option Addr} {cl : Nat} {l : List S39} (h : RN w0 w n0 g v fi oe ne L Al cl l) (hg : w.grownBy w' (some q)) (hq : q < n0) (ht : Kd.C k39 w' Al l.length l) : RN w' w' n0 g v fi oe ne L Al cl l :=
 ⟨Below.refl _ _, (hg.block _ (zaM h.cur) (fun e => by have := Option.some.inj e; have := h.n1; omega)).trans h.cur, Kd.R_grown h.row hg (fun p hp e => by have := Option.some.inj e; omega), ht, h.n1⟩
mutual
theorem partsT_size : ∀ (T : AT) (at_ : Int), ∀ x ∈ zbL T at_, tsize x.1.erase ≤ tsize T.erase
 | .node k w wd A c kids, at_, x, hx => by
  simp only [zbL] at hx; by_cases hk : k < 50
  ·rw [if_pos hk] at hx; simp at hx
  ·rw [if_neg hk] at hx
   rcases List.mem_cons.1 hx with rfl | hx
   ·exact Nat.le_refl _
   ·have := partsL_size kids at_ x hx
    simp only [AT.erase, tsize]; omega
theorem partsL_size : ∀ (l : List AT) (at_ : Int), ∀ x ∈ zbR l at_, tsize x.1.erase ≤ lsize (zbN l)
 | [], at_, x, hx => by simp [zbR] at hx
 | T :: r, at_, x, hx => by
  simp only [zbR, List.mem_append] at hx; simp only [zbN, lsize]; rcases hx with hx | hx
  ·have := partsT_size T at_ x hx; omega
  ·have := partsL_size r _ x hx; omega
end
theorem rtake_node {W : World} {T : AT} {fi oe ne : Int} {l : List S39} {n : Nat} (hk : TakeOk W T n) (cl at_ : Int) {o : Option (AT × Int)} (ho : zbT fi oe ne (zbL T 0) l cl at_ = o) : AtT W (nodeQ o) ∧ (tsize (nodeQ o).erase ≤ tsize T.erase) := by
 have h0 : AtT W (.node 0 0 0 none 0 []) ∧ (tsize (AT.node 0 0 0 none 0 []).erase ≤ tsize T.erase) := ⟨by simp [AtT], by have := tsize_pos T.erase; simp only [AT.erase, zbN, tsize, lsize]; omega⟩
 subst ho; unfold zbT
 by_cases h1 : at_ < 0 ∨ (fi ≤ at_ ∧ at_ < ne)
 ·rw [if_pos h1]; exact h0
 rw [if_neg h1]; cases hf : (zbL T 0).find? (hitB cl (if fi ≤ at_ then IntKind.i64.wrap (at_ - ne + oe) else at_)) with
 | none => exact h0
 | some x =>
  simp only
  split
  ·exact h0
  ·have hx := List.mem_of_find?_eq_some hf
   exact ⟨(hk.parts x hx).1, partsT_size T 0 x hx⟩
theorem toks_self (l : List S39) (h : l.length ≤ 1000000) : Ev (fun n => zaT.f n l l) true := by
 have key : ∀ (m i : Nat), i + m = l.length → Ev (fun n => zaT.l0 n l l (i : Int)) true := by
  intro m
  induction m with
  | zero =>
   intro i hi
   exact Ev.step (f := fun _ => some true) (fun n => by rw [zaT.l0, if_neg (by omega)]) (Ev.now _)
  | succ m ih =>
   intro i hi
   refine Ev.step (fun n => ?_) (ih (i + 1) (by omega))
   rw [zaT.l0, if_pos (by omega), if_pos (by omega), if_pos (by omega), if_neg (by simp), wrap_id (by omega) (by omega)]
   rfl
 have h0 := key l.length 0 (by omega)
 exact Ev.congr (fun n => by unfold zaT.f; rw [if_pos rfl]; rfl) h0
mutual
theorem sizeT_eq : ∀ T : AT, sizeT T = tsize T.erase
 | .node k w wd A c kids => by simp only [sizeT, AT.erase, tsize, sizeL_eq kids]
theorem sizeL_eq : ∀ l : List AT, sizeL l = lsize (zbN l)
 | [] => rfl
 | T :: r => by simp only [sizeL, zbN, lsize, sizeT_eq T, sizeL_eq r]
end
theorem R_put4 {α : Type} {d : Kd α} {e base : Nat} {ok : Nat → Prop} {v : Value} {xs : List α} {w : World} {q : Nat} {v0 v1 v2 v3 : Value} (h : Kd.R d e w base ok v xs) (hq : w.heap[q]? = some (.cells #[v0, v1, v2, v3] 27 (0, 0))) (ht : ∀ p, p ∈ e :: d.E → p ≠ 27) (u0 u1 u2 u3 : Value) : Kd.R d e (put4 w q u0 u1 u2 u3) base ok v xs := by
 have b1 := zbs hq 0 u0; have b2 := zbs b1 1 u1; have b3 := zbs b2 2 u2; exact Kd.R_set (Kd.R_set (Kd.R_set (Kd.R_set h hq ht 0 u0) b1 ht 1 u1) b2 ht 2 u2) b3 ht 3 u3
theorem CN.put4 {w0 w : World} {n0 g b r cap : Nat} {fi oe ne tk : Int} {nm : Nat} {M : PMap} {xs : List Int} (h : CN w0 w n0 g b r cap fi oe ne tk nm M xs) {q : Nat} {v0 v1 v2 v3 : Value} (hq : w.heap[q]? = some (.cells #[v0, v1, v2, v3] 27 (0, 0))) (hn : n0 ≤ q) (u0 u1 u2 u3 : Value) : CN w0 (put4 w q u0 u1 u2 u3) n0 g b r cap fi oe ne tk nm M xs := by
 have hg : g ≠ q := fun e => by
  have := h.cur; rw [e, hq] at this; injection this with this
  injection this with _ h2 _
  exact absurd h2 (by decide)
 have hb : b ≠ q := fun e => by
  obtain ⟨D, ⟨es, clock, hc, _⟩, _⟩ := h.map.own; rw [e, hq] at hc; injection hc with hc
  injection hc
 exact ⟨put4_below h.low hn _ _ _ _, (zbD hg _ _ _ _).trans h.cur, h.map.keep (zbD hb _ _ _ _), R_put4 h.row hq (by decide) _ _ _ _, h.n1, h.n2⟩
theorem RN.put4 {w0 w : World} {n0 g : Nat} {v : Value} {fi oe ne : Int} {L : List Part3} {Al : Option Addr} {cl : Nat} {l : List S39} (h : RN w0 w n0 g v fi oe ne L Al cl l) {q : Nat} {v0 v1 v2 v3 : Value} (hq : w.heap[q]? = some (.cells #[v0, v1, v2, v3] 27 (0, 0))) (u0 u1 u2 u3 : Value) (ht : Kd.C k39 (H.put4 w q u0 u1 u2 u3) Al l.length l) : RN (H.put4 w q u0 u1 u2 u3) (H.put4 w q u0 u1 u2 u3) n0 g v fi oe ne L Al cl l := by
 have hg : g ≠ q := fun e => by
  have := h.cur; rw [e, hq] at this; injection this with this
  injection this with _ h2 _
  exact absurd h2 (by decide)
 exact ⟨Below.refl _ _, (zbD hg _ _ _ _).trans h.cur, R_put4 h.row hq (by decide) _ _ _ _, ht, h.n1⟩
theorem ctake_one {W0 w0 W : World} {n0 g b r cap : Nat} {fi oe ne tk : Int} {nm : Nat} {T : AT} {xs : List Int} {l : List S39} (h : CN w0 W n0 g b r cap fi oe ne tk nm (addT T 0 fun _ => none) xs) (hk : TakeOk W0 T l.length) (hl : l.length ≤ 1000000) (hx : xs.length = l.length + 1) (hb : ∀ j, j ≤ l.length → xs.getD j 0 = (bh l j : Int)) (hfi : 0 ≤ fi ∧ fi ≤ ne ∧ ne ≤ 1048576 ∧ 0 ≤ oe ∧ oe ≤ 1000000) (htk : 0 ≤ tk ∧ tk ≤ 1000000) (cl at_ : Int) (hcl : 0 ≤ cl ∧ cl ≤ 255) (hat : inI at_) {o : Option (AT × Int)} (ho : zbT fi oe ne (zbL T 0) l cl at_ = o) :
  Calls Try.prog 14 #[.pointer (some ⟨g, 0, none⟩), .int .u8 cl, .int .i64 at_] W fun e W' => W.grownBy W' (some g) ∧ e = .returned (.tuple #[(nodeQ o).val, .int .i64 (cntO o), .bool o.isSome]) ∧ CN w0 W' n0 g b r cap fi oe ne (if o.isSome then tk + 1 else tk) nm (addT T 0 fun _ => none) xs := by
 have hc := ctake_calls h (fun s T' n hs => by have := hk.map s T' n hs; rw [hx]; exact this) (by omega) hfi htk cl at_ hcl hat
 rw [take_same hk hl hx hb hfi cl at_ hat, ho] at hc; exact hc.mono fun e W' hp => hp.one
theorem rtake_one {W0 W : World} {n0 g : Nat} {v : Value} {fi oe ne : Int} {T : AT} {Al : Option Addr} {cp : Nat} {l : List S39} (h : RN W W n0 g v fi oe ne (zbL T 0) Al cp l) (hk : TakeOk W0 T l.length) (hW : Below W0.heap.size W0 W) (hcp : l.length ≤ cp) (hl : l.length ≤ 1000000) (hk0 : ∀ t ∈ l, 0 ≤ t.f0) (hsz : sizeT T ≤ 1000000) (hfi : 0 ≤ fi ∧ fi ≤ ne ∧ ne ≤ 1048576 ∧ 0 ≤ oe ∧ oe ≤ 1000000) (cl at_ : Int) (hcl : 0 ≤ cl ∧ cl ≤ 255) (hat : inI at_) {o : Option (AT × Int)} (ho : zbT fi oe ne (zbL T 0) l cl at_ = o) :
  Calls Try.prog 15 #[.pointer (some ⟨g, 0, none⟩), .int .u8 cl, .int .i64 at_] W fun e W' => Below W.heap.size W W' ∧ e = .returned (.tuple #[(nodeQ o).val, .int .i64 (cntO o), .bool o.isSome]) := by
 have hc := rtake_calls h hcp hl hk0 (fun x hx => ⟨AtT.below hW _ (hk.parts x hx).1, (hk.parts x hx).2⟩) (Nat.le_trans (partsT_len T 0) hsz) (Below.refl _ _) hfi cl at_ hcl hat
 rw [ho] at hc; exact hc.mono fun e W' hp => hp.one
theorem err_fit {fi oe ne n : Int} {fit : Bool} (h : errN fi oe ne n fit = 0) : fit = true ∧ 0 ≤ fi ∧ fi ≤ oe ∧ fi ≤ ne ∧ oe ≤ n ∧ ne ≤ 1048576 := by
 unfold errN at h
 split at h
 ·omega
 ·split at h
  ·rename_i h1 h2
   exact ⟨h2, by omega⟩
  ·omega
theorem infoTok : (Try.prog.info? 39).map (fun i => (i.zero, i.size, i.bytes)) = some (some (.agg #[.int .u8 0, .int .i64 0, .int .i64 0]), 3, 24) := by kernel_rfl
set_option maxHeartbeats 8000000 in
set_option maxRecDepth 100000 in
theorem asks_calls (W : World) (T : AT) (hT : AtT W T) (hby : byteT T.erase) (hts : tsize T.erase ≤ 1000000) (hsz : sizeT T ≤ 1000000) (Al : Option Addr) (cl : Nat) (l : List S39) (hr : Kd.C k39 W Al l.length l) (hc : l.length ≤ cl) (hl : l.length ≤ 1000000) (hk : ∀ t ∈ l, 0 ≤ t.f0) (fi oe ne : Int) (Aq : Option Addr) (cq : Nat) (q : List AskS) (hq : Kd.C kAsk W Aq q.length q) (hqc : q.length ≤ cq) (hql : q.length ≤ 200) (hqi : ∀ x ∈ q, (0 ≤ x.f0 ∧ x.f0 ≤ 255) ∧ inI x.f1) :
  Calls Try.prog 7 #[T.val, .slice Al l.length cl, .int .i64 fi, .int .i64 oe, .int .i64 ne, .slice Aq q.length cq] W fun e W' => e = .returned (.bool true) ∧ Below W.heap.size W W' := by
 obtain ⟨fit, hfit⟩ : ∃ fit, fit = fitsT T.erase l := ⟨_, rfl⟩; have HTOK := zaa.mk (show fit = true → TakeOk W T l.length from fun h => take_ok hT (cnt_fits T hby l (by rw [← hfit]; exact h)))
 have HCN := zaa.mk (fun (w : World) (hw : Below W.heap.size W w) (Ai : Option Addr) (ci : Nat) (hi : Kd.C k39 w Ai l.length l) (hic : l.length ≤ ci) => cnew_calls w T (AtT.below hw T hT) hts hsz Ai ci l hi hic hl fi oe ne fit hfit.symm)
 have HRNW := zaa.mk (fun (w : World) (hw : Below W.heap.size W w) => rnew_calls w T (AtT.below hw T hT) hby hts hsz Al cl l (Kd.za4 hr hw) hc hl fi oe ne fit hfit.symm)
 obtain ⟨KS, hKS⟩ := toks_self l hl; have HKS := zaa.mk (hKS KS (Nat.le_refl _)); have HT := zaa.mk hT; have HTS := zaa.mk hts; have HSZ := zaa.mk hsz; have HR := zaa.mk hr; have HC := zaa.mk hc; have HKK := zaa.mk hk; have HQ := zaa.mk hq; have HQC := zaa.mk hqc; have HQI := zaa.mk hqi; have HLL := zaa.mk hl; have hu := Try.underlying27; have huc := Try.underlying77; have hua := Try.underlying54; clear hr hc hk hq hqc hqi hKS hfit hT hby hts hsz hl; obtain ⟨TT, hTT⟩ : ∃ TT, TT = T := ⟨_, rfl⟩; rw [← hTT] at HTOK HCN HRNW HT HTS HSZ; have HTE := zaa.mk hTT; obtain ⟨k, w1, wd, A, c, kids⟩ := T; have htv : TT.val = .agg #[.int .u8 k, .int .u8 w1, .int .i64 wd, .slice A kids.length c] := by rw [hTT]; rfl
 rw [htv] at HCN HRNW; clear hTT htv HTE; simp only [AT.val, AT.k, AT.w, AT.wd, AT.A, AT.c, AT.kids]; go_enter Try.func7, Try.ntmps7
 go_upto_region 1 with (fail)
 obtain ⟨X, hX⟩ : ∃ V, V = W.alloc (.cells #[.int .u8 k, .int .u8 w1, .int .i64 wd, .slice A kids.length c] 27) := ⟨_, rfl⟩; have HBX := zaa.mk (show Below W.heap.size W X by rw [hX]; exact zad (Below.refl _ _) _)
 have HBOX := zaa.mk (show X.heap[W.heap.size]? = some (.cells #[.int .u8 k, .int .u8 w1, .int .i64 wd, .slice A kids.length c] 27 (0, 0)) by rw [hX]; exact heap_alloc_new _ _)
 change Code.wp Try.prog _ _ _ (W.alloc (.cells #[.int .u8 k, .int .u8 w1, .int .i64 wd, .slice A kids.length c] 27))
 rw [← hX]; clear hX; have HRX := zaa.mk (Kd.za4 HR.out HBX.out); go_upto_region 2 with (first | ((with_reducible refine za5 (N := 26) rfl ?_); refine Kd.R_lit k39 X.heap.size 39 ?hg (N := 26) ?hd (xs := ([] : List S39)) (inner := []) (ok := fun k => X.heap.size ≤ k) (okp := fun _ => False) ?hr ?hp (fun _ hk => hk.elim) (Nat.le_refl _) (Below.refl _ _) (Nat.le_refl _) (by simp) ?_; (case hd => rfl); (case hg => rfl); (case hr => first | (go_simp; done) | (go_simp; rfl)); (case hp => exact (Reps.none _ _)); intro v5 w5 ho5 hb5 hg_ hnew_; have HO5 := zaa.mk ho5; have HB5 := zaa.mk hb5; clear hg_ hnew_ ho5 hb5) | ((with_reducible refine gate_builtin (b := .append) (xs := #[.tmp 26, .tmp 27]) rfl ?_); at_builtin; refine Kd.R_append_rows k39 (w0 := X) X.heap.size rfl (.tmp 26) (.tmp 27) 23 39 (.agg #[.int .u8 0, .int .i64 0, .int .i64 0]) 24 rfl Try.underlying23 infoTok rfl (by decide) (by omega) v5 [] l _ _ _ (fun k => X.heap.size ≤ k) (fun _ => False) rfl rfl HO5.out (Kd.za4 HRX.out HB5.out) (fun x cs h => by obtain rfl := k39_open h; exact k39_mkM _ _ _ _) (fun _ h => h.elim) ?aF ?aB ?aS ?aL ?_; (case aB => exact HB5.out); (case aF => exact (fun k hk => Nat.le_trans HB5.out.size hk)); (case aS => exact HB5.out.size); (case aL => have := HLL.out; simp only [List.length_nil]; omega); intro v7 w7 ho7 hb7 hg hat; rw [List.nil_append] at ho7; obtain ⟨Ai, ci, rfl, hci, hCi⟩ := Kd.R_reads ho7; have HCI := zaa.mk hCi; have HB7 := zaa.mk hb7; have HLI := zaa.mk hci; clear ho7 hb7 hg hat hci hCi))
 have HBW := zaa.mk (zan HBX.out HB7.out); have hbx := zaU HBOX.out HB7.out; have p0 := zae hbx 0; have p1 := zae hbx 1; have p2 := zae hbx 2; have p3 := zae hbx 3; simp at p0 p1 p2 p3; clear hbx; by_cases hz : errN fi oe ne l.length fit = 0
 ·obtain ⟨ht1, ht2, ht3, ht4, ht5, ht6⟩ := err_fit hz
  have HTK := zaa.mk (HTOK.out ht1); have HFI := zaa.mk (show 0 ≤ fi ∧ fi ≤ ne ∧ ne ≤ 1048576 ∧ 0 ≤ oe ∧ oe ≤ 1000000 by have := HLL.out; exact ⟨ht2, ht4, ht6, by omega, by omega⟩)
  have HZ := zaa.mk hz; clear hz ht1 ht2 ht3 ht4 ht5 ht6 HTOK; go_upto_region 3 with (go_at_call 12; refine (HCN.out w7 HBW.out Ai ci HCI.out HLI.out).mono ?_; rintro e w3 ⟨er, her, hb3, h3⟩; rcases h3 with ⟨hne, rfl⟩ | ⟨_, g, b, r, cap, nm, xs, rfl, hcn, hnm, hxl, hxb⟩; (exact absurd (her.trans HZ.out) hne); have HB3 := zaa.mk hb3; have HCN3 := zaa.mk hcn; have HXL := zaa.mk hxl; have HXB := zaa.mk hxb; clear hb3 hcn hnm hxl hxb her p0 p1 p2 p3)
  have hbx := zaU HBOX.out (zan HB7.out HB3.out); have p0 := zae hbx 0; have p1 := zae hbx 1; have p2 := zae hbx 2; have p3 := zae hbx 3; simp at p0 p1 p2 p3; clear hbx; go_upto_region 4 with (go_at_call 13; refine (HRNW.out w3 (zan HBW.out HB3.out)).mono ?_; rintro e w4 ⟨er2, her2, hb4, h4⟩; rcases h4 with ⟨hne, rfl⟩ | ⟨_, g2, v2, rfl, hrn⟩; (exact absurd (her2.trans HZ.out) hne); have HB4 := zaa.mk hb4; have HRN4 := zaa.mk hrn; clear hb4 hrn her2 p0 p1 p2 p3)
  have HCN4 := zaa.mk (HCN3.out.below HB4.out); have HRN4' := zaa.mk HRN4.out.now; have HGL := zaa.mk (zaM HCN3.out.cur); clear HRN4 HCN HRNW; go_wp2
  go_loopg [18, 19] q.length (fun kq v18 v19 w' => ∃ (i : Nat) (tk : Int), v19 = .int .i64 i ∧ v18 = .int .i64 tk ∧ i ≤ q.length ∧ 0 ≤ tk ∧ tk ≤ i ∧ zaa (kq = q.length - i) ∧ zaa (CN w7 w' w7.heap.size g b r cap fi oe ne tk nm (addT TT 0 fun _ => none) xs ∧ RN w' w' w3.heap.size g2 v2 fi oe ne (zbL TT 0) Al cl l))
  case atStart => exact ⟨0, 0, rfl, rfl, Nat.zero_le _, Int.le_refl _, Int.le_refl _, ⟨rfl⟩, ⟨HCN4.out, HRN4'.out⟩⟩
  case round =>
   obtain ⟨i, tk, rfl, rfl, hi, htk0, htk1, HK, HLP⟩ := hrel; by_cases hlt : i < q.length
   ·obtain ⟨x, hx⟩ : ∃ x, q[i]? = some x := ⟨_, List.getElem?_eq_getElem hlt⟩
    obtain ⟨adq, hadq, _, _⟩ := ask_at HQ.out i hlt x hx; subst hadq; obtain ⟨hxk, hxa⟩ := HQI.out x (List.mem_of_getElem? hx); obtain ⟨ak, aa⟩ := x; simp only at hxk hxa; have HSX := zaa.mk (fun (w : World) (hw : Below w7.heap.size w7 w) => (show w.cell? (adq.add (i * 2)) = some (.int .u8 ak) ∧ w.cell? ⟨(adq.add (i * 2)).block, (adq.add (i * 2)).off + 1, none⟩ = some (.int .i64 aa) from by
     obtain ⟨ad2, e2, h0, h1⟩ := ask_at (Kd.za4 HQ.out (zan HBW.out hw)) i hlt ⟨ak, aa⟩ hx; obtain rfl := Option.some.inj e2; exact ⟨h0, h1⟩))
    obtain ⟨o, ho⟩ : ∃ o, zbT fi oe ne (zbL TT 0) l ak aa = o := ⟨_, rfl⟩; have HNO := zaa.mk (rtake_node HTK.out ak aa ho); have HXA := zaa.mk hxa; have HXK := zaa.mk hxk; have HO := zaa.mk ho; clear hx hxk hxa ho; have HTKB := zaa.mk (show 0 ≤ tk ∧ tk ≤ 1000000 from ⟨htk0, by omega⟩)
    obtain ⟨on, hon⟩ : ∃ on, cntO o = on := ⟨_, rfl⟩; obtain ⟨ob, hob⟩ : ∃ ob, o.isSome = ob := ⟨_, rfl⟩; obtain ⟨TN, hTN⟩ : ∃ TN, nodeQ o = TN := ⟨_, rfl⟩; have HON := zaa.mk hon; have HOB := zaa.mk hob; have HTN := zaa.mk hTN; rw [hTN] at HNO; clear hon hob hTN; obtain ⟨nk, nw, nd, nA, nc, nl⟩ := TN; have HTV := zaa.mk (show (nodeQ o).val = .agg #[.int .u8 nk, .int .u8 nw, .int .i64 nd, .slice nA nl.length nc] by rw [HTN.out]; rfl)
    go_upto_region 12 with (fail)
    go_cut [20, 21, 22] (fun v20 v21 v22 wx => ∃ b20, v20 = .pointer (some ⟨b20, 0, none⟩) ∧ v21 = .int .i64 on ∧ v22 = .bool ob ∧ zaa (wx.heap[b20]? = some (.cells #[.int .u8 nk, .int .u8 nw, .int .i64 nd, .slice nA nl.length nc] 27 (0, 0)) ∧ CN w7 wx w7.heap.size g b r cap fi oe ne (if ob then tk + 1 else tk) nm (addT TT 0 fun _ => none) xs ∧ RN wx wx w3.heap.size g2 v2 fi oe ne (zbL TT 0) Al cl l))
    case first =>
     obtain ⟨Y, hY⟩ : ∃ Y : World, Y = wr.drew := ⟨_, rfl⟩; have HBD := zaa.mk (show Below wr.heap.size wr Y by rw [hY]; exact (Below.refl _ _).drew)
     have HCY := zaa.mk (HLP.out.1.below HBD.out); have HRY := zaa.mk (HLP.out.2.below HBD.out).now; refine wp_region_noPanic (zbx [0, 1, 2, 3, 4, 5, 6, 7, 8, 9, 10, 11, 12, 13, 14, 15, 16, 17, 18, 19] (fun W' => W'.cell? (adq.add (i * 2)) = some (.int .u8 ak) ∧ W'.cell? ⟨(adq.add (i * 2)).block, (adq.add (i * 2)).off + 1, none⟩ = some (.int .i64 aa)) mixE ?_)
     rw [← hY]; clear hY; have HS0 := zaa.mk (HSX.out Y HCY.out.low); refine zar 0 (v := ?_) HS0.out ?_ ?_
     rotate_left
     ·(intro W' hW'; obtain ⟨s0, s1⟩ := hW'; go_simp; try rfl)
     simp only [Act.put, zav]; refine zar 1 (v := ?_) HS0.out ?_ ?_
     rotate_left
     ·(intro W' hW'; obtain ⟨s0, s1⟩ := hW'; go_simp; try rfl)
     simp only [Act.put, zav]; refine zar 2 (v := ?_) HS0.out ?_ ?_
     rotate_left
     ·(intro W' hW'; obtain ⟨s0, s1⟩ := hW'; go_simp; try rfl)
     simp only [Act.put, zav]; refine zar 3 (v := ?_) HS0.out ?_ ?_
     rotate_left
     ·(intro W' hW'; obtain ⟨s0, s1⟩ := hW'; go_simp; try rfl)
     simp only [Act.put, zav]; refine zar 4 (v := ?_) HS0.out ?_ ?_
     rotate_left
     ·(intro W' hW'; obtain ⟨s0, s1⟩ := hW'; go_simp; try rfl)
     simp only [Act.put, zav]; refine zar 5 (v := ?_) HS0.out ?_ ?_
     rotate_left
     ·(intro W' hW'; obtain ⟨s0, s1⟩ := hW'; go_simp; try rfl)
     simp only [Act.put, zav]; refine zar 6 (v := ?_) HS0.out ?_ ?_
     rotate_left
     ·(intro W' hW'; obtain ⟨s0, s1⟩ := hW'; go_simp; try rfl)
     simp only [Act.put, zav]; refine zar 7 (v := ?_) HS0.out ?_ ?_
     rotate_left
     ·(intro W' hW'; obtain ⟨s0, s1⟩ := hW'; go_simp; try rfl)
     simp only [Act.put, zav]; refine zar 8 (v := ?_) HS0.out ?_ ?_
     rotate_left
     ·(intro W' hW'; obtain ⟨s0, s1⟩ := hW'; go_simp; try rfl)
     simp only [Act.put, zav]; refine zar 9 (v := ?_) HS0.out ?_ ?_
     rotate_left
     ·(intro W' hW'; obtain ⟨s0, s1⟩ := hW'; go_simp; try rfl)
     simp only [Act.put, zav]; refine zar 10 (v := ?_) HS0.out ?_ ?_
     rotate_left
     ·(intro W' hW'; obtain ⟨s0, s1⟩ := hW'; go_simp; try rfl)
     simp only [Act.put, zav]; refine wpAnyN_two (i := 11) (j := 16) rfl rfl (by decide +kernel) (fun K hK => ?_) (fun K hK => ?_)
     ·have hcall := ctake_one HCY.out HTK.out HLL.out HXL.out HXB.out HFI.out HTKB.out ak aa HXK.out HXA.out HO.out
      rw [HTV.out, HON.out, HOB.out] at hcall; go_simp
      refine hcall.mono ?_
      rintro e w5 ⟨hg5, rfl, hc5⟩
      have HG5 := zaa.mk hg5; have HC5 := zaa.mk hc5; have HR5 := zaa.mk (HRY.out.next hg5 (by have := HGL.out; exact this) (Kd.za4 HR.out (zan HBW.out hc5.low)))
      clear hcall hg5 hc5; have HS5 := zaa.mk (HSX.out w5 HC5.out.low); refine hK.out _ _ (fun _ => HS5.out) (fun _ => ?_)
      clear hK K; try simp only [Act.put, zav]
      refine zar 12 (v := ?_) HS5.out ?_ ?_
      rotate_left
      ·(intro W' hW'; obtain ⟨s0, s1⟩ := hW'; go_simp; try rfl)
      simp only [Act.put, zav]; refine zar 13 (v := ?_) HS5.out ?_ ?_
      rotate_left
      ·(intro W' hW'; obtain ⟨s0, s1⟩ := hW'; go_simp; try rfl)
      simp only [Act.put, zav]; refine zar 14 (v := ?_) HS5.out ?_ ?_
      rotate_left
      ·(intro W' hW'; obtain ⟨s0, s1⟩ := hW'; go_simp; try rfl)
      simp only [Act.put, zav]; refine zar 15 (v := ?_) HS5.out ?_ ?_
      rotate_left
      ·(intro W' hW'; obtain ⟨s0, s1⟩ := hW'; go_simp; try rfl)
      simp only [Act.put, zav]; refine zaX (i := 16) rfl (by kernel_rfl) (fun K hK => ?_)
      go_simp
      obtain ⟨z, hz⟩ : ∃ z : World, z = w5.alloc (.cells #[.int .u8 0, .int .u8 0, .int .i64 0, .slice none 0 0] 27) := ⟨_, rfl⟩; rw [← hz]; have HBZ := zaa.mk (show Below w5.heap.size w5 z by rw [hz]; exact zad (Below.refl _ _) _)
      have HZB := zaa.mk (show z.heap[w5.heap.size]? = some (.cells #[.int .u8 0, .int .u8 0, .int .i64 0, .slice none 0 0] 27 (0, 0)) by rw [hz]; exact heap_alloc_new _ _)
      have HCZ := zaa.mk (HC5.out.below HBZ.out); have HRZ := zaa.mk (HR5.out.below HBZ.out).now; have HZN := zaa.mk (show w7.heap.size ≤ w5.heap.size from HC5.out.low.size)
      have HSZ_ := zaa.mk (HSX.out z HCZ.out.low); refine hK.out _ _ (fun _ => HSZ_.out) (fun _ => ?_)
      clear hK K; try simp only [Act.put, zav]
      clear hz; obtain ⟨bn, hbn⟩ : ∃ bn, bn = w5.heap.size := ⟨_, rfl⟩; rw [← hbn] at HZB HZN; rw [← hbn]; clear hbn; clear HC5 HR5; have r0 := zae HZB.out 0; have r1 := zae HZB.out 1; have r2 := zae HZB.out 2; have r3 := zae HZB.out 3; have f0 := zab HZB.out 0; have f1 := zab HZB.out 1; have f2 := zab HZB.out 2; have f3 := zab HZB.out 3; have lz := zaM HZB.out; simp at r0 r1 r2 r3; have HCE := zaa.mk (HCZ.out.put4 HZB.out HZN.out (.int .u8 nk) (.int .u8 nw) (.int .i64 nd) (.slice nA nl.length nc)); have HRE := zaa.mk (HRZ.out.put4 HZB.out (.int .u8 nk) (.int .u8 nw) (.int .i64 nd) (.slice nA nl.length nc) (Kd.za4 HR.out (zan HBW.out HCE.out.low))); have HSE := zaa.mk (HSX.out _ HCE.out.low); refine zaX (i := 17) rfl (by kernel_rfl) (fun K hK => ?_)
      go_simp
      refine hK.out _ _ (fun _ => HSE.out) (fun _ => ?_)
      clear hK K; try simp only [Act.put, zav]
      refine zar 18 (v := ?_) HSE.out ?_ ?_
      rotate_left
      ·(intro W' hW'; obtain ⟨s0, s1⟩ := hW'; go_simp; try rfl)
      simp only [Act.put, zav]; refine zar 19 (v := ?_) HSE.out ?_ ?_
      rotate_left
      ·(intro W' hW'; obtain ⟨s0, s1⟩ := hW'; go_simp; try rfl)
      simp only [Act.put, zav]; refine zbd (by kernel_rfl) (NoPanic.normal ?_) _
      clear r0 r1 r2 r3 f0 f1 f2 f3 lz; go_wp2_with fail
      go_meet
      exact ⟨bn, rfl, rfl, rfl, ⟨zbY HZB.out _ _ _ _, HCE.out, HRE.out⟩⟩
     ·go_simp
      obtain ⟨z0, hz⟩ : ∃ z : World, z = Y.alloc (.cells #[.int .u8 0, .int .u8 0, .int .i64 0, .slice none 0 0] 27) := ⟨_, rfl⟩; rw [← hz]; have HBZ := zaa.mk (show Below Y.heap.size Y z0 by rw [hz]; exact zad (Below.refl _ _) _)
      have HZB0 := zaa.mk (show z0.heap[Y.heap.size]? = some (.cells #[.int .u8 0, .int .u8 0, .int .i64 0, .slice none 0 0] 27 (0, 0)) by rw [hz]; exact heap_alloc_new _ _)
      have HZN := zaa.mk (show w7.heap.size ≤ Y.heap.size from HCY.out.low.size)
      have HGY := zaa.mk (show g ≠ Y.heap.size by have := zaM HCY.out.cur; omega)
      have HCY_ := zaa.mk (HCY.out.below HBZ.out); have HRY_ := zaa.mk (HRY.out.below HBZ.out).now; clear HCY HRY; have HCY := HCY_; have HRY := HRY_; have HSZ_ := zaa.mk (HSX.out z0 HCY.out.low); refine hK.out _ _ (fun _ => HSZ_.out) (fun _ => ?_)
      clear hK K; try simp only [Act.put, zav]
      clear hz; obtain ⟨bn, hbn⟩ : ∃ bn, bn = Y.heap.size := ⟨_, rfl⟩; rw [← hbn] at HZB0 HZN HGY; rw [← hbn]; clear hbn HS0 HBZ HBD; refine zaX (i := 11) rfl (by kernel_rfl) (fun K hK => ?_)
      have hcall := ctake_one HCY.out HTK.out HLL.out HXL.out HXB.out HFI.out HTKB.out ak aa HXK.out HXA.out HO.out; rw [HTV.out, HON.out, HOB.out] at hcall; go_simp
      refine hcall.mono ?_
      rintro e w5 ⟨hg5, rfl, hc5⟩
      have HG5 := zaa.mk hg5; have HC5 := zaa.mk hc5; have HR5 := zaa.mk (HRY.out.next hg5 (by have := HGL.out; exact this) (Kd.za4 HR.out (zan HBW.out hc5.low)))
      have HZB := zaa.mk ((hg5.block _ (zaM HZB0.out) (fun e => HGY.out (Option.some.inj e).symm)).trans HZB0.out)
      clear hcall hg5 hc5; have HS5 := zaa.mk (HSX.out w5 HC5.out.low); refine hK.out _ _ (fun _ => HS5.out) (fun _ => ?_)
      clear hK K; try simp only [Act.put, zav]
      refine zar 12 (v := ?_) HS5.out ?_ ?_
      rotate_left
      ·(intro W' hW'; obtain ⟨s0, s1⟩ := hW'; go_simp; try rfl)
      simp only [Act.put, zav]; refine zar 13 (v := ?_) HS5.out ?_ ?_
      rotate_left
      ·(intro W' hW'; obtain ⟨s0, s1⟩ := hW'; go_simp; try rfl)
      simp only [Act.put, zav]; refine zar 14 (v := ?_) HS5.out ?_ ?_
      rotate_left
      ·(intro W' hW'; obtain ⟨s0, s1⟩ := hW'; go_simp; try rfl)
      simp only [Act.put, zav]; refine zar 15 (v := ?_) HS5.out ?_ ?_
      rotate_left
      ·(intro W' hW'; obtain ⟨s0, s1⟩ := hW'; go_simp; try rfl)
      simp only [Act.put, zav]; obtain ⟨z, hz⟩ : ∃ z : World, z = w5 := ⟨_, rfl⟩; have HCZ := HC5; have HRZ := HR5; rw [← hz] at HZB HCZ HRZ; rw [← hz]; clear hz; clear HC5 HR5; have r0 := zae HZB.out 0; have r1 := zae HZB.out 1; have r2 := zae HZB.out 2; have r3 := zae HZB.out 3; have f0 := zab HZB.out 0; have f1 := zab HZB.out 1; have f2 := zab HZB.out 2; have f3 := zab HZB.out 3; have lz := zaM HZB.out; simp at r0 r1 r2 r3; have HCE := zaa.mk (HCZ.out.put4 HZB.out HZN.out (.int .u8 nk) (.int .u8 nw) (.int .i64 nd) (.slice nA nl.length nc)); have HRE := zaa.mk (HRZ.out.put4 HZB.out (.int .u8 nk) (.int .u8 nw) (.int .i64 nd) (.slice nA nl.length nc) (Kd.za4 HR.out (zan HBW.out HCE.out.low))); have HSE := zaa.mk (HSX.out _ HCE.out.low); refine zaX (i := 17) rfl (by kernel_rfl) (fun K hK => ?_)
      go_simp
      refine hK.out _ _ (fun _ => HSE.out) (fun _ => ?_)
      clear hK K; try simp only [Act.put, zav]
      refine zar 18 (v := ?_) HSE.out ?_ ?_
      rotate_left
      ·(intro W' hW'; obtain ⟨s0, s1⟩ := hW'; go_simp; try rfl)
      simp only [Act.put, zav]; refine zar 19 (v := ?_) HSE.out ?_ ?_
      rotate_left
      ·(intro W' hW'; obtain ⟨s0, s1⟩ := hW'; go_simp; try rfl)
      simp only [Act.put, zav]; refine zbd (by kernel_rfl) (NoPanic.normal ?_) _
      clear r0 r1 r2 r3 f0 f1 f2 f3 lz; go_wp2_with fail
      go_meet
      exact ⟨bn, rfl, rfl, rfl, ⟨zbY HZB.out _ _ _ _, HCE.out, HRE.out⟩⟩
    case rest =>
     obtain ⟨wx, rfl⟩ : ∃ w_ : World, w_ = wc := ⟨_, rfl⟩; obtain ⟨b20, rfl, rfl, rfl, HX⟩ := hcut; go_upto_region 13 with (fail)
     go_cut [23, 24, 25] (fun v23 v24 v25 wx => ∃ b23, v23 = .pointer (some ⟨b23, 0, none⟩) ∧ v24 = .int .i64 on ∧ v25 = .bool ob ∧ zaa (wx.heap[b23]? = some (.cells #[.int .u8 nk, .int .u8 nw, .int .i64 nd, .slice nA nl.length nc] 27 (0, 0)) ∧ wx.heap[b20]? = some (.cells #[.int .u8 nk, .int .u8 nw, .int .i64 nd, .slice nA nl.length nc] 27 (0, 0)) ∧ CN w7 wx w7.heap.size g b r cap fi oe ne (if ob then tk + 1 else tk) nm (addT TT 0 fun _ => none) xs ∧ RN wx wx w3.heap.size g2 v2 fi oe ne (zbL TT 0) Al cl l))
     case first =>
      obtain ⟨Y, hY⟩ : ∃ Y : World, Y = wx.drew := ⟨_, rfl⟩; have HBD := zaa.mk (show Below wx.heap.size wx Y by rw [hY]; exact (Below.refl _ _).drew)
      have H20 := zaa.mk (zaU HX.out.1 HBD.out); have HCY := zaa.mk (HX.out.2.1.below HBD.out); have HRY := zaa.mk (HX.out.2.2.below HBD.out).now; refine wp_region_noPanic (zbx [0, 1, 2, 3, 4, 5, 6, 7, 8, 9, 10, 11, 12, 13, 14, 15, 16, 17, 18, 19] (fun W' => W'.cell? (adq.add (i * 2)) = some (.int .u8 ak) ∧ W'.cell? ⟨(adq.add (i * 2)).block, (adq.add (i * 2)).off + 1, none⟩ = some (.int .i64 aa)) mixE ?_)
      rw [← hY]; clear hY; have HS0 := zaa.mk (HSX.out Y HCY.out.low); refine zar 0 (v := ?_) HS0.out ?_ ?_
      rotate_left
      ·(intro W' hW'; obtain ⟨s0, s1⟩ := hW'; go_simp; try rfl)
      simp only [Act.put, zav]; refine zar 1 (v := ?_) HS0.out ?_ ?_
      rotate_left
      ·(intro W' hW'; obtain ⟨s0, s1⟩ := hW'; go_simp; try rfl)
      simp only [Act.put, zav]; refine zar 2 (v := ?_) HS0.out ?_ ?_
      rotate_left
      ·(intro W' hW'; obtain ⟨s0, s1⟩ := hW'; go_simp; try rfl)
      simp only [Act.put, zav]; refine zar 3 (v := ?_) HS0.out ?_ ?_
      rotate_left
      ·(intro W' hW'; obtain ⟨s0, s1⟩ := hW'; go_simp; try rfl)
      simp only [Act.put, zav]; refine zar 4 (v := ?_) HS0.out ?_ ?_
      rotate_left
      ·(intro W' hW'; obtain ⟨s0, s1⟩ := hW'; go_simp; try rfl)
      simp only [Act.put, zav]; refine zar 5 (v := ?_) HS0.out ?_ ?_
      rotate_left
      ·(intro W' hW'; obtain ⟨s0, s1⟩ := hW'; go_simp; try rfl)
      simp only [Act.put, zav]; refine zar 6 (v := ?_) HS0.out ?_ ?_
      rotate_left
      ·(intro W' hW'; obtain ⟨s0, s1⟩ := hW'; go_simp; try rfl)
      simp only [Act.put, zav]; refine zar 7 (v := ?_) HS0.out ?_ ?_
      rotate_left
      ·(intro W' hW'; obtain ⟨s0, s1⟩ := hW'; go_simp; try rfl)
      simp only [Act.put, zav]; refine zar 8 (v := ?_) HS0.out ?_ ?_
      rotate_left
      ·(intro W' hW'; obtain ⟨s0, s1⟩ := hW'; go_simp; try rfl)
      simp only [Act.put, zav]; refine zar 9 (v := ?_) HS0.out ?_ ?_
      rotate_left
      ·(intro W' hW'; obtain ⟨s0, s1⟩ := hW'; go_simp; try rfl)
      simp only [Act.put, zav]; refine zar 10 (v := ?_) HS0.out ?_ ?_
      rotate_left
      ·(intro W' hW'; obtain ⟨s0, s1⟩ := hW'; go_simp; try rfl)
      simp only [Act.put, zav]; refine wpAnyN_two (i := 11) (j := 16) rfl rfl (by decide +kernel) (fun K hK => ?_) (fun K hK => ?_)
      ·have hcall := rtake_one HRY.out HTK.out (zan HBW.out HCY.out.low) HC.out HLL.out HKK.out HSZ.out HFI.out ak aa HXK.out HXA.out HO.out
       rw [HTV.out, HON.out, HOB.out] at hcall; go_simp
       refine hcall.mono ?_
       rintro e w5 ⟨hb5, rfl⟩
       have HB5 := zaa.mk hb5; have HC5 := zaa.mk (HCY.out.below hb5); have HR5 := zaa.mk (HRY.out.below hb5).now; have H20' := zaa.mk (zaU H20.out hb5); clear hcall hb5; have HS5 := zaa.mk (HSX.out w5 HC5.out.low); refine hK.out _ _ (fun _ => HS5.out) (fun _ => ?_)
       clear hK K; try simp only [Act.put, zav]
       refine zar 12 (v := ?_) HS5.out ?_ ?_
       rotate_left
       ·(intro W' hW'; obtain ⟨s0, s1⟩ := hW'; go_simp; try rfl)
       simp only [Act.put, zav]; refine zar 13 (v := ?_) HS5.out ?_ ?_
       rotate_left
       ·(intro W' hW'; obtain ⟨s0, s1⟩ := hW'; go_simp; try rfl)
       simp only [Act.put, zav]; refine zar 14 (v := ?_) HS5.out ?_ ?_
       rotate_left
       ·(intro W' hW'; obtain ⟨s0, s1⟩ := hW'; go_simp; try rfl)
       simp only [Act.put, zav]; refine zar 15 (v := ?_) HS5.out ?_ ?_
       rotate_left
       ·(intro W' hW'; obtain ⟨s0, s1⟩ := hW'; go_simp; try rfl)
       simp only [Act.put, zav]; refine zaX (i := 16) rfl (by kernel_rfl) (fun K hK => ?_)
       go_simp
       obtain ⟨z, hz⟩ : ∃ z : World, z = w5.alloc (.cells #[.int .u8 0, .int .u8 0, .int .i64 0, .slice none 0 0] 27) := ⟨_, rfl⟩; rw [← hz]; have HBZ := zaa.mk (show Below w5.heap.size w5 z by rw [hz]; exact zad (Below.refl _ _) _)
       have HZB := zaa.mk (show z.heap[w5.heap.size]? = some (.cells #[.int .u8 0, .int .u8 0, .int .i64 0, .slice none 0 0] 27 (0, 0)) by rw [hz]; exact heap_alloc_new _ _)
       have HCZ := zaa.mk (HC5.out.below HBZ.out); have HRZ := zaa.mk (HR5.out.below HBZ.out).now; have HZN := zaa.mk (show w7.heap.size ≤ w5.heap.size from HC5.out.low.size)
       have HZ20 := zaa.mk (zaU H20'.out HBZ.out); have HNE := zaa.mk (show b20 ≠ w5.heap.size by have := zaM H20'.out; omega)
       have HSZ_ := zaa.mk (HSX.out z HCZ.out.low); refine hK.out _ _ (fun _ => HSZ_.out) (fun _ => ?_)
       clear hK K; try simp only [Act.put, zav]
       clear hz; obtain ⟨bn, hbn⟩ : ∃ bn, bn = w5.heap.size := ⟨_, rfl⟩; rw [← hbn] at HZB HZN HNE; rw [← hbn]; clear hbn; clear HC5 HR5; have r0 := zae HZB.out 0; have r1 := zae HZB.out 1; have r2 := zae HZB.out 2; have r3 := zae HZB.out 3; have f0 := zab HZB.out 0; have f1 := zab HZB.out 1; have f2 := zab HZB.out 2; have f3 := zab HZB.out 3; have lz := zaM HZB.out; simp at r0 r1 r2 r3; have HCE := zaa.mk (HCZ.out.put4 HZB.out HZN.out (.int .u8 nk) (.int .u8 nw) (.int .i64 nd) (.slice nA nl.length nc)); have HRE := zaa.mk (HRZ.out.put4 HZB.out (.int .u8 nk) (.int .u8 nw) (.int .i64 nd) (.slice nA nl.length nc) (Kd.za4 HR.out (zan HBW.out HCE.out.low))); have HSE := zaa.mk (HSX.out _ HCE.out.low); refine zaX (i := 17) rfl (by kernel_rfl) (fun K hK => ?_)
       go_simp
       refine hK.out _ _ (fun _ => HSE.out) (fun _ => ?_)
       clear hK K; try simp only [Act.put, zav]
       refine zar 18 (v := ?_) HSE.out ?_ ?_
       rotate_left
       ·(intro W' hW'; obtain ⟨s0, s1⟩ := hW'; go_simp; try rfl)
       simp only [Act.put, zav]; refine zar 19 (v := ?_) HSE.out ?_ ?_
       rotate_left
       ·(intro W' hW'; obtain ⟨s0, s1⟩ := hW'; go_simp; try rfl)
       simp only [Act.put, zav]; refine zbd (by kernel_rfl) (NoPanic.normal ?_) _
       clear r0 r1 r2 r3 f0 f1 f2 f3 lz; go_wp2_with fail
       go_meet
       exact ⟨bn, rfl, rfl, rfl, ⟨zbY HZB.out _ _ _ _, (zbD HNE.out _ _ _ _).trans HZ20.out, HCE.out, HRE.out⟩⟩
      ·go_simp
       obtain ⟨z0, hz⟩ : ∃ z : World, z = Y.alloc (.cells #[.int .u8 0, .int .u8 0, .int .i64 0, .slice none 0 0] 27) := ⟨_, rfl⟩; rw [← hz]; have HBZ := zaa.mk (show Below Y.heap.size Y z0 by rw [hz]; exact zad (Below.refl _ _) _)
       have HZB0 := zaa.mk (show z0.heap[Y.heap.size]? = some (.cells #[.int .u8 0, .int .u8 0, .int .i64 0, .slice none 0 0] 27 (0, 0)) by rw [hz]; exact heap_alloc_new _ _)
       have HZN := zaa.mk (show w7.heap.size ≤ Y.heap.size from HCY.out.low.size)
       have HGY := zaa.mk (show g ≠ Y.heap.size by have := zaM HCY.out.cur; omega)
       have HNE := zaa.mk (show b20 ≠ Y.heap.size by have := zaM H20.out; omega)
       have H20_ := zaa.mk (zaU H20.out HBZ.out); clear H20; have H20 := H20_; have HCY_ := zaa.mk (HCY.out.below HBZ.out); have HRY_ := zaa.mk (HRY.out.below HBZ.out).now; clear HCY HRY; have HCY := HCY_; have HRY := HRY_; have HSZ_ := zaa.mk (HSX.out z0 HCY.out.low); refine hK.out _ _ (fun _ => HSZ_.out) (fun _ => ?_)
       clear hK K; try simp only [Act.put, zav]
       clear hz; obtain ⟨bn, hbn⟩ : ∃ bn, bn = Y.heap.size := ⟨_, rfl⟩; rw [← hbn] at HZB0 HZN HGY HNE; rw [← hbn]; clear hbn HS0 HBZ HBD; refine zaX (i := 11) rfl (by kernel_rfl) (fun K hK => ?_)
       have hcall := rtake_one HRY.out HTK.out (zan HBW.out HCY.out.low) HC.out HLL.out HKK.out HSZ.out HFI.out ak aa HXK.out HXA.out HO.out; rw [HTV.out, HON.out, HOB.out] at hcall; go_simp
       refine hcall.mono ?_
       rintro e w5 ⟨hb5, rfl⟩
       have HB5 := zaa.mk hb5; have HC5 := zaa.mk (HCY.out.below hb5); have HR5 := zaa.mk (HRY.out.below hb5).now; have H20' := zaa.mk (zaU H20.out hb5); have HZB := zaa.mk (zaU HZB0.out hb5); clear hcall hb5; have HS5 := zaa.mk (HSX.out w5 HC5.out.low); refine hK.out _ _ (fun _ => HS5.out) (fun _ => ?_)
       clear hK K; try simp only [Act.put, zav]
       refine zar 12 (v := ?_) HS5.out ?_ ?_
       rotate_left
       ·(intro W' hW'; obtain ⟨s0, s1⟩ := hW'; go_simp; try rfl)
       simp only [Act.put, zav]; refine zar 13 (v := ?_) HS5.out ?_ ?_
       rotate_left
       ·(intro W' hW'; obtain ⟨s0, s1⟩ := hW'; go_simp; try rfl)
       simp only [Act.put, zav]; refine zar 14 (v := ?_) HS5.out ?_ ?_
       rotate_left
       ·(intro W' hW'; obtain ⟨s0, s1⟩ := hW'; go_simp; try rfl)
       simp only [Act.put, zav]; refine zar 15 (v := ?_) HS5.out ?_ ?_
       rotate_left
       ·(intro W' hW'; obtain ⟨s0, s1⟩ := hW'; go_simp; try rfl)
       simp only [Act.put, zav]; obtain ⟨z, hz⟩ : ∃ z : World, z = w5 := ⟨_, rfl⟩; have HCZ := HC5; have HRZ := HR5; have HZ20 := H20'; rw [← hz] at HZB HCZ HRZ HZ20; rw [← hz]; clear hz; clear HC5 HR5; have r0 := zae HZB.out 0; have r1 := zae HZB.out 1; have r2 := zae HZB.out 2; have r3 := zae HZB.out 3; have f0 := zab HZB.out 0; have f1 := zab HZB.out 1; have f2 := zab HZB.out 2; have f3 := zab HZB.out 3; have lz := zaM HZB.out; simp at r0 r1 r2 r3; have HCE := zaa.mk (HCZ.out.put4 HZB.out HZN.out (.int .u8 nk) (.int .u8 nw) (.int .i64 nd) (.slice nA nl.length nc)); have HRE := zaa.mk (HRZ.out.put4 HZB.out (.int .u8 nk) (.int .u8 nw) (.int .i64 nd) (.slice nA nl.length nc) (Kd.za4 HR.out (zan HBW.out HCE.out.low))); have HSE := zaa.mk (HSX.out _ HCE.out.low); refine zaX (i := 17) rfl (by kernel_rfl) (fun K hK => ?_)
       go_simp
       refine hK.out _ _ (fun _ => HSE.out) (fun _ => ?_)
       clear hK K; try simp only [Act.put, zav]
       refine zar 18 (v := ?_) HSE.out ?_ ?_
       rotate_left
       ·(intro W' hW'; obtain ⟨s0, s1⟩ := hW'; go_simp; try rfl)
       simp only [Act.put, zav]; refine zar 19 (v := ?_) HSE.out ?_ ?_
       rotate_left
       ·(intro W' hW'; obtain ⟨s0, s1⟩ := hW'; go_simp; try rfl)
       simp only [Act.put, zav]; refine zbd (by kernel_rfl) (NoPanic.normal ?_) _
       clear r0 r1 r2 r3 f0 f1 f2 f3 lz; go_wp2_with fail
       go_meet
       exact ⟨bn, rfl, rfl, rfl, ⟨zbY HZB.out _ _ _ _, (zbD HNE.out _ _ _ _).trans HZ20.out, HCE.out, HRE.out⟩⟩
     case rest =>
      obtain ⟨wy, rfl⟩ : ∃ w_ : World, w_ = wc := ⟨_, rfl⟩; obtain ⟨b23, rfl, rfl, rfl, HX2⟩ := hcut; obtain ⟨h23, h20, hcn2, hrn2⟩ := HX2.out; have p0 := zae h20 0; have p1 := zae h20 1; have p2 := zae h20 2; have p3 := zae h20 3; have q0 := zae h23 0; have q1 := zae h23 1; have q2 := zae h23 2; have q3 := zae h23 3; simp at p0 p1 p2 p3 q0 q1 q2 q3; have HCX := zaa.mk hcn2; have HRX2 := zaa.mk hrn2; clear h23 h20 hcn2 hrn2 HX HX2; have hCk := C_of_AT _ _ (Nat.lt_succ_self _) W HNO.out.1; simp only [AT.A, AT.kids] at hCk; have hkc : nl.length ≤ nc := by have := HNO.out.1; simp only [AtT] at this; exact this.1
      have hel := zbl nl; have hCk2 : Kd.C k27 wy nA (zbN nl).length (zbN nl) := by rw [hel]; exact Kd.za4 hCk (zan HBW.out HCX.out.low)
      have hcall := rself_calls _ (⟨nk, nw, nd, zbN nl⟩ : S27) (Nat.lt_succ_self _) (by have := HNO.out.2; have := HTS.out; simp only [AT.erase] at *; omega) nA nA nc nc wy (by rw [hel]; exact hkc) (by rw [hel]; exact hkc) hCk2 hCk2
      simp only [nodeW] at hcall; rw [hel] at hcall; clear hCk hCk2 hkc hel; cases ob with
      | false =>
       go_wp2_with (go_at_call 16; refine (hcall.mono ?_); rintro e w9 ⟨rfl, hb9⟩; have HB9 := zaa.mk hb9; clear hb9 hcall p0 p1 p2 p3 q0 q1 q2 q3)
       go_roundg (q.length - (i + 1))
       case measure => have := HK.out; omega
       case rel => exact ⟨i + 1, tk, by go_num, rfl, by omega, htk0, by omega, ⟨rfl⟩, ⟨HCX.out.below HB9.out, (HRX2.out.below HB9.out).now⟩⟩
      | true =>
       go_wp2_with (go_at_call 16; refine (hcall.mono ?_); rintro e w9 ⟨rfl, hb9⟩; have HB9 := zaa.mk hb9; clear hb9 hcall p0 p1 p2 p3 q0 q1 q2 q3)
       go_roundg (q.length - (i + 1))
       case measure => have := HK.out; omega
       case rel => exact ⟨i + 1, tk + 1, by go_num, by go_num, by omega, by omega, by omega, ⟨rfl⟩, ⟨HCX.out.below HB9.out, (HRX2.out.below HB9.out).now⟩⟩
   ·have hie : i = q.length := by omega
    subst hie; have hCi := Kd.za4 HCI.out HLP.out.1.low; have hCr := Kd.za4 HR.out (zan HBW.out HLP.out.1.low); have HCI2 := zaa.mk hCi; have HCR2 := zaa.mk hCr; clear hCi hCr; go_wp2_with (first | (go_at_call 17; refine (ctaken_calls HLP.out.1).mono ?_; rintro e w8 ⟨rfl, hb8⟩; have HB8 := zaa.mk hb8; clear hb8) | (go_at_call 18; refine (zaT.calls KS Ai ci l Al cl l true w8 (Kd.za4 HCI2.out HB8.out) HLI.out (Kd.za4 HCR2.out HB8.out) HC.out HKS.out).mono ?_; rintro e w10 ⟨rfl, hb10⟩; have HB10 := zaa.mk hb10; clear hb10))
    go_ret
    exact ⟨rfl, zan (zan (zan HBW.out HLP.out.1.low) HB8.out) HB10.out.below⟩
 ·have HZ := zaa.mk hz
  go_upto_region 3 with (go_at_call 12; refine (HCN.out w7 HBW.out Ai ci HCI.out HLI.out).mono ?_; rintro e w3 ⟨er, her, hb3, h3⟩; rcases h3 with ⟨hne, rfl⟩ | ⟨h00, _⟩; rotate_left; (exact absurd (her.symm.trans h00) HZ.out); have HB3 := zaa.mk hb3; have HER := zaa.mk her; have hne1 := hne; clear hb3 her hne p0 p1 p2 p3)
  have hbx := zaU HBOX.out (zan HB7.out HB3.out); have p0 := zae hbx 0; have p1 := zae hbx 1; have p2 := zae hbx 2; have p3 := zae hbx 3; simp at p0 p1 p2 p3; clear hbx; go_upto_region 4 with (go_at_call 13; refine (HRNW.out w3 (zan HBW.out HB3.out)).mono ?_; rintro e w4 ⟨er2, her2, hb4, h4⟩; rcases h4 with ⟨hne, rfl⟩ | ⟨h00, _⟩; rotate_left; (exact absurd (her2.symm.trans h00) HZ.out); have HB4 := zaa.mk hb4; have HER2 := zaa.mk her2; clear hb4 her2 hne p0 p1 p2 p3)
  obtain rfl : er2 = er := HER2.out.trans HER.out.symm; have d0 : (er2 == 0) = false := by simp [hne1]
  have d1 : (er2 == er2) = true := by simp
  have d2 : (er2 != 0) = true := by simp [hne1]
  go_wp2
  go_ret
  exact ⟨rfl, zan (zan HBW.out HB3.out) HB4.out⟩
theorem rd_bounds {l : List S39} (h : ∀ t ∈ l, 0 ≤ t.f0 ∧ t.f0 ≤ 255) (i : Nat) (hi : i < l.length) : 0 ≤ (zbc l i).f0 ∧ (zbc l i).f0 ≤ 255 := by
 have e : zbc l (i : Int) = l[i] := by
  unfold zbc
  rw [Int.toNat_natCast, List.getD_eq_getElem?_getD, List.getElem?_eq_getElem hi]
  rfl
 rw [e]; exact h _ (List.getElem_mem hi)
theorem nv_tree {b : Nat} {ok : Nat → Prop} {W : World} {k w wd : Int} {v : Value} {l : List S27} {N : Nat} (h : NV b ok W k w wd v l N) : byteT ⟨k, w, wd, l⟩ ∧ tsize ⟨k, w, wd, l⟩ ≤ N := by
 refine ⟨by simp only [byteT]; exact ⟨h.kb, h.wb, h.lb⟩, ?_⟩
 have := h.size; simp only [tsize]; omega
set_option maxHeartbeats 8000000 in
set_option maxRecDepth 100000 in
theorem texts_law (s : ByteArray) (fi oe ne : Int) (Aq : Option Addr) (cq : Nat) (q : List AskS) (W : World) (hq : Kd.C kAsk W Aq q.length q) (hqc : q.length ≤ cq) (hqi : ∀ x ∈ q, (0 ≤ x.f0 ∧ x.f0 ≤ 255) ∧ inI x.f1) :
  Calls Try.prog 3 #[.string s, .int .i64 fi, .int .i64 oe, .int .i64 ne, .slice Aq q.length cq] W fun e W' => e = .returned (.bool true) ∧ Below W.heap.size W W' := by
 have HQ := zaa.mk hq; have HQC := zaa.mk hqc; have HQI := zaa.mk hqi; have hu := Try.underlying27; clear hq hqc hqi; by_cases c1 : 200 < q.length
 ·by_cases hl : 3000 < s.size
  ·have hl' : (3000 : Int) < (s.size : Int) := by omega
   go_enter Try.func3, Try.ntmps3
   go_wp2
   go_ret
   exact ⟨rfl, Below.refl _ _⟩
  ·have hl' : ¬ (3000 : Int) < (s.size : Int) := by omega
   go_enter Try.func3, Try.ntmps3
   go_wp2
   go_ret
   exact ⟨rfl, Below.refl _ _⟩
 by_cases hl : 3000 < s.size
 ·have hl' : (3000 : Int) < (s.size : Int) := by omega
  go_enter Try.func3, Try.ntmps3
  go_wp2
  go_ret
  exact ⟨rfl, Below.refl _ _⟩
 ·have hl' : ¬ (3000 : Int) < (s.size : Int) := by omega
  obtain ⟨K, lt, hK, hlen, hkinds⟩ := lex_all s (by omega)
  have HLX := zaa.mk hK; have HLN := zaa.mk hlen; have HKI := zaa.mk (rd_bounds hkinds); have HK0 := zaa.mk (show ∀ t ∈ lt, 0 ≤ t.f0 from fun t ht => (hkinds t ht).1)
  clear hK hlen hkinds; go_enter Try.func3, Try.ntmps3
  go_upto_region 5 with (first | (go_at_call 5; refine (zaS.calls K s lt W HLX.out).mono ?_; rintro e w1 ⟨v1, rfl, hR, hB1⟩; obtain ⟨A1, c1, rfl, hc1, hC1⟩ := Kd.R_reads hR; have HB1 := zaa.mk hB1; have HC1 := zaa.mk hC1; have HK1 := zaa.mk hc1; clear hR hB1 hC1 hc1) | (go_at_call 6; refine (file_calls A1 c1 lt w1 HC1.out HK1.out HLN.out HKI.out).mono ?_; rintro e w2 ⟨v, er, rfl, k, w, wd, u, l, rfl, hN, hB⟩; obtain ⟨A2, c2, rfl, hc2, hC2⟩ := Kd.zaQ hN.row; have HT := zaa.mk (nv_tree hN); have HB12 := zaa.mk hB; have HB := zaa.mk (HB1.out.trans (hB.mono HB1.out.size)); have HC2 := zaa.mk hC2; have HK2 := zaa.mk hc2; clear hN hB hC2 hc2))
  have hb3 : Below w2.heap.size w2 (w2.alloc (nodeO k w wd (.slice A2 l.length c2))) := zad (Below.refl _ _) _; have HB3 := zaa.mk (HB.out.trans (hb3.mono HB.out.size)); have HC3 := zaa.mk (Kd.za4 HC2.out hb3); have HCT := zaa.mk (Kd.za4 HC1.out (zan HB12.out hb3)); obtain ⟨x0, x1, x2, x3⟩ := (zaD (heap_alloc_new w2 (nodeO k w wd (.slice A2 l.length c2)))).1; obtain ⟨Y, hY⟩ : ∃ Y, Y = w2.alloc (nodeO k w wd (.slice A2 l.length c2)) := ⟨_, rfl⟩; rw [← hY] at HB3 HC3 HCT x0 x1 x2 x3; change Code.wp Try.prog _ _ _ (w2.alloc (nodeO k w wd (.slice A2 l.length c2)))
  rw [← hY]; clear hY hb3; obtain ⟨kids, hke, hAT⟩ := exists_AT Y _ ⟨k, w, wd, l⟩ (Nat.lt_succ_self _) A2 c2 HK2.out HC3.out; simp only at hke hAT; have hkl : l.length = kids.length := by rw [← hke, zbl]
  have hera : (AT.node k w wd A2 c2 kids).erase = ⟨k, w, wd, l⟩ := by simp only [AT.erase, hke]
  have hcall := asks_calls Y (.node k w wd A2 c2 kids) hAT (by rw [hera]; exact HT.out.1) (by rw [hera]; have := HT.out.2; omega) (by rw [sizeT_eq, hera]; have := HT.out.2; omega) A1 c1 lt HCT.out HK1.out (by have := HLN.out; omega) HK0.out fi oe ne Aq cq q (Kd.za4 HQ.out HB3.out) HQC.out (by omega) HQI.out
  simp only [AT.val, AT.k, AT.w, AT.wd, AT.A, AT.c, AT.kids] at hcall; rw [← hkl] at hcall; clear hke hAT hkl hera; go_wp2_with (go_at_call 7; refine hcall.mono ?_; rintro e w4 ⟨rfl, hb4⟩; have HB4 := zaa.mk (zan HB3.out hb4); clear hb4 hcall)
  go_ret
  exact ⟨rfl, HB4.out⟩
end Go.Proofs.Ytghbfjmmjfklfaa.H
