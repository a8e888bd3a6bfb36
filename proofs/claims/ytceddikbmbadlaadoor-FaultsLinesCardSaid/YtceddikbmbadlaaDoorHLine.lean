/- faults.Line, glossatorref19.Line. -/
import Derived.Test.YtceddikbmbadlaaDoorHItoa
import Derived.Lib.SmallJoins
import Derived.Test.YtceddikbmbadlaaDoorHRound
import Derived.Test.YtceddikbmbadlaaDoorHNumber
import Derived.Test.YtceddikbmbadlaaDoorHName
import Derived.Test.YtceddikbmbadlaaDoorHxglossatorref15Name
import Derived.Test.YtceddikbmbadlaaDoorHxglossatorref19within
set_option linter.unusedVariables false
set_option linter.unusedSimpArgs false
namespace Go.Proofs.YtceddikbmbadlaaDoor.H
open Go.RowKit Go.Proofs.YtceddikbmbadlaaDoorW.PrintWords Go.Proofs.YtceddikbmbadlaaDoorW.PrintLast Go.Proofs.YtceddikbmbadlaaDoorW.PrintMore
attribute [local go_sem] max_two min_two
/-- What a fault's line says. -/
def headB (A B : ByteArray) : ByteArray := A ++ ⟨#[45]⟩ ++ B ++ ⟨#[58, 32]⟩
def itoaB (n : Int) : ByteArray := ⟨(Lib.itoa n).toArray⟩
/-- A place brought to within a text. -/
def clampI (lo hi n : Int) : Int := if hi < (if n < lo then lo else n) then hi else (if n < lo then lo else n)
def lineB (s : ByteArray) (fr tt kd wt : Int) : ByteArray :=
  if kd = 50 then headB (itoaB fr) (itoaB tt) ++ ⟨#[109, 105, 115, 115, 105, 110, 103, 32]⟩ ++ NAMES.getD wt.toNat ByteArray.empty
  else headB (itoaB fr) (itoaB tt) ++ NAMES.getD kd.toNat ByteArray.empty ++ ⟨#[32]⟩ ++ s.extract (clampI 0 s.size fr).toNat (clampI (clampI 0 s.size fr) s.size tt).toNat
/-- What the walk keeps. -/
def LS (w : World) (fr tt kd wt : Int) (W' : World) : Prop := W'.cell? ⟨w.heap.size, 0, none⟩ = some (.int .i64 fr) ∧ W'.cell? ⟨w.heap.size, 1, none⟩ = some (.int .i64 tt) ∧ W'.cell? ⟨w.heap.size, 2, none⟩ = some (.int .u8 kd) ∧ W'.cell? ⟨w.heap.size, 3, none⟩ = some (.int .u8 wt) ∧
  (Below w.heap.size w W' ∧ Lib.TabIs Tryd.prog W' "internal/strconv.uint64pow10" .u64 Lib.pow10Tab)
def LQ (w : World) (fr tt kd wt : Int) (W' : World) : Prop := W'.cell? ⟨w.heap.size, 0, none⟩ = some (.int .i64 fr) ∧ W'.cell? ⟨w.heap.size, 1, none⟩ = some (.int .i64 tt) ∧ W'.cell? ⟨w.heap.size, 2, none⟩ = some (.int .u8 kd) ∧ W'.cell? ⟨w.heap.size, 3, none⟩ = some (.int .u8 wt) ∧
  Below w.heap.size w W'
theorem LQ.below {w W X : World} {fr tt kd wt : Int} (h : LQ w fr tt kd wt W) (hb : Below W.heap.size W X) : LQ w fr tt kd wt X := by
  obtain ⟨h1, h2, h3, h4, h5⟩ := h
  have hlt : w.heap.size < W.heap.size := World.block_lt_of_cell? W _ h1
  exact ⟨(hb.cell hlt).trans h1, (hb.cell hlt).trans h2, (hb.cell hlt).trans h3, (hb.cell hlt).trans h4, h5.trans (hb.mono h5.size)⟩
theorem names_le (k : Nat) : (NAMES.getD k ByteArray.empty).size ≤ 10 := by
  by_cases hk : k < NAMES.length
  · rw [List.getD_eq_getElem?_getD, List.getElem?_eq_getElem hk]
    have h : NAMES.all (fun b => b.size ≤ 10) = true := by decide +kernel
    simpa using List.all_eq_true.1 h _ (List.getElem_mem hk)
  · rw [List.getD_eq_getElem?_getD, List.getElem?_eq_none (by omega)]
    decide
theorem refName_f : ∀ k : Fin 256, glossatorref15_Name.f (k.val : Int) = some (NAMES.getD k.val ByteArray.empty) := by decide +kernel
theorem refName_calls (k : Int) (h0 : 0 ≤ k) (h1 : k < 256) (w : World) : Calls Tryd.prog 9 #[.int .u8 k] w fun e w' => e = .returned (.string (NAMES.getD k.toNat ByteArray.empty)) ∧ Below w.heap.size w w' :=
  glossatorref15_Name.calls k _ w (by
    have h := refName_f ⟨k.toNat, by omega⟩
    rw [show ((k.toNat : Nat) : Int) = k by omega] at h
    exact h)
theorem within_calls (lo hi n : Int) (hlh : lo ≤ hi) (w : World) : Calls Tryd.prog 10 #[.int .i64 n, .int .i64 lo, .int .i64 hi] w fun e w' => e = .returned (.int .i64 (clampI lo hi n)) ∧ Below w.heap.size w w' := by
  refine (glossatorref19_within.calls n lo hi (clampI lo hi n) w ?_).mono ?_
  · unfold glossatorref19_within.f clampI
    (repeat' split) <;> first | rfl | (congr 1; omega) | omega
  · rintro e w' ⟨rfl, hd⟩
    exact ⟨rfl, hd.below⟩
theorem grow_below (w : World) (k : Nat) (os : Array Obj) : Below w.heap.size w (Sort.grow (w.drewN k) os) := by
  refine (show Below w.heap.size w (w.drewN k) from ⟨rfl, rfl, rfl, Nat.le_refl _, fun _ _ => rfl⟩).trans ⟨rfl, rfl, rfl, ?_, fun i hi => ?_⟩
  · simp [Sort.grow]
  · have h2 : i < (w.drewN k).heap.size := hi
    simp only [Sort.grow]
    rw [Array.getElem?_append, if_pos h2]
theorem table_named : ∃ g, Tryd.prog.globalNamed "internal/strconv.uint64pow10" = some g := Option.isSome_iff_exists.1 (by kernel_rfl)
theorem LS.below {w W X : World} {fr tt kd wt : Int} (h : LS w fr tt kd wt W) (hb : Below W.heap.size W X) : LS w fr tt kd wt X := by
  obtain ⟨h1, h2, h3, h4, h5, h6⟩ := h
  obtain ⟨g, hg⟩ := table_named
  have hlt : w.heap.size < W.heap.size := World.block_lt_of_cell? W _ h1
  refine ⟨(hb.cell hlt).trans h1, (hb.cell hlt).trans h2, (hb.cell hlt).trans h3, (hb.cell hlt).trans h4, h5.trans (hb.mono h5.size), Go.Joins.tab_stays hg h6 hb (Nat.le_refl _)⟩
set_option maxHeartbeats 8000000 in
set_option maxRecDepth 100000 in
theorem line_calls (s : ByteArray) (fr tt kd wt : Int) (h0 : -9223372036854775808 ≤ fr) (h1 : fr ≤ 9223372036854775807) (h2 : -9223372036854775808 ≤ tt) (h3 : tt ≤ 9223372036854775807)
    (hk0 : 0 ≤ kd) (hk1 : kd < 256) (hw0 : 0 ≤ wt) (hw1 : wt < 256) (hs : s.size ≤ 140737488355328) (w : World) (htab : Lib.TabIs Tryd.prog w "internal/strconv.uint64pow10" .u64 Lib.pow10Tab) :
    Calls Tryd.prog 4 #[.string s, .agg #[.int .i64 fr, .int .i64 tt, .int .u8 kd, .int .u8 wt]] w fun e w' => e = .returned (.string (lineB s fr tt kd wt)) ∧ Below w.heap.size w w' := by
  have HT := Aside0.mk htab
  clear htab
  have hle := Lib.itoa_length_le fr h0 h1
  have hlf := Lib.itoa_length_le tt h2 h3
  obtain ⟨A, hA⟩ : ∃ A : ByteArray, A = itoaB fr := ⟨_, rfl⟩
  obtain ⟨B, hB⟩ : ∃ B : ByteArray, B = itoaB tt := ⟨_, rfl⟩
  have ha : A.size ≤ 21 := by rw [hA]; exact hle
  have hb : B.size ≤ 21 := by rw [hB]; exact hlf
  have HIA := Aside0.mk (fun (W : World) (ht : Lib.TabIs Tryd.prog W "internal/strconv.uint64pow10" .u64 Lib.pow10Tab) => (show A = (⟨(Lib.itoa fr).toArray⟩ : ByteArray) from hA) ▸ itoa_calls fr h0 h1 W ht)
  have HIB := Aside0.mk (fun (W : World) (ht : Lib.TabIs Tryd.prog W "internal/strconv.uint64pow10" .u64 Lib.pow10Tab) => (show B = (⟨(Lib.itoa tt).toArray⟩ : ByteArray) from hB) ▸ itoa_calls tt h2 h3 W ht)
  have HAB := Aside0.mk (And.intro hA hB)
  clear hA hB hle hlf
  have z2 : ¬ 9223372036854775807 < A.size + 1 + B.size := by omega
  have z3 : ¬ 9223372036854775807 < A.size + 1 + B.size + 2 := by omega
  have z1 : ¬ 9223372036854775807 < A.size + 1 := by omega
  go_enter Tryd.func4, Tryd.ntmps4
  go_wp2_with fail
  have HS0 := Aside0.mk (show LS w fr tt kd wt (w.alloc (.cells #[.int .i64 fr, .int .i64 tt, .int .u8 kd, .int .u8 wt] 25)).drew from by
    obtain ⟨g, hg⟩ := table_named
    have hb0 : Below w.heap.size w (w.alloc (.cells #[.int .i64 fr, .int .i64 tt, .int .u8 kd, .int .u8 wt] 25)).drew := (Below.alloc (Below.refl _ _) (Nat.le_refl _) _).drew
    exact ⟨World.cell?_alloc_new _ _ _ 0, World.cell?_alloc_new _ _ _ 1, World.cell?_alloc_new _ _ _ 2, World.cell?_alloc_new _ _ _ 3, hb0, Go.Joins.tab_stays hg HT.out hb0 (Nat.le_refl _)⟩)
  refine wp_region_noPanic (plain_need [0, 1, 2, 3, 4, 5, 6, 7, 8, 9, 10, 11] (LS w fr tt kd wt) (by kernel_rfl) ?_)
  refine wpAnyN_take (i := 0) (v := ?_) rfl (by kernel_rfl) (by kernel_rfl) (by kernel_rfl) (by kernel_rfl) (fun _ _ _ h => h) (.inl ⟨by rfl, ?_⟩) HS0.out ?_
  rotate_left
  · (intro W' hW'; obtain ⟨s0, s1, s2, s3, s4⟩ := hW'; go_simp; try rfl)
  simp only [Act.put, List.setIfInBounds_toArray, List.set_cons_zero, List.set_cons_succ]
  refine wpAnyN_take (i := 5) (v := ?_) rfl (by kernel_rfl) (by kernel_rfl) (by kernel_rfl) (by kernel_rfl) (fun _ _ _ h => h) (.inl ⟨by rfl, ?_⟩) HS0.out ?_
  rotate_left
  · (intro W' hW'; obtain ⟨s0, s1, s2, s3, s4⟩ := hW'; go_simp; try rfl)
  simp only [Act.put, List.setIfInBounds_toArray, List.set_cons_zero, List.set_cons_succ]
  refine wpAnyN_take (i := 1) (v := ?_) rfl (by kernel_rfl) (by kernel_rfl) (by kernel_rfl) (by kernel_rfl) (fun _ _ _ h => h) (.inl ⟨by rfl, ?_⟩) HS0.out ?_
  rotate_left
  · (intro W' hW'; obtain ⟨s0, s1, s2, s3, s4⟩ := hW'; go_simp; try rfl)
  simp only [Act.put, List.setIfInBounds_toArray, List.set_cons_zero, List.set_cons_succ]
  refine wpAnyN_take (i := 6) (v := ?_) rfl (by kernel_rfl) (by kernel_rfl) (by kernel_rfl) (by kernel_rfl) (fun _ _ _ h => h) (.inl ⟨by rfl, ?_⟩) HS0.out ?_
  rotate_left
  · (intro W' hW'; obtain ⟨s0, s1, s2, s3, s4⟩ := hW'; go_simp; try rfl)
  simp only [Act.put, List.setIfInBounds_toArray, List.set_cons_zero, List.set_cons_succ]
  refine wpAnyN_take (i := 2) (v := ?_) rfl (by kernel_rfl) (by kernel_rfl) (by kernel_rfl) (by kernel_rfl) (fun _ _ _ h => h) (.inl ⟨by rfl, ?_⟩) HS0.out ?_
  rotate_left
  · (intro W' hW'; obtain ⟨s0, s1, s2, s3, s4⟩ := hW'; go_simp; try rfl)
  simp only [Act.put, List.setIfInBounds_toArray, List.set_cons_zero, List.set_cons_succ]
  refine wpAnyN_take (i := 7) (v := ?_) rfl (by kernel_rfl) (by kernel_rfl) (by kernel_rfl) (by kernel_rfl) (fun _ _ _ h => h) (.inl ⟨by rfl, ?_⟩) HS0.out ?_
  rotate_left
  · (intro W' hW'; obtain ⟨s0, s1, s2, s3, s4⟩ := hW'; go_simp; try rfl)
  simp only [Act.put, List.setIfInBounds_toArray, List.set_cons_zero, List.set_cons_succ]
  refine wpAnyN_one (i := 3) rfl (by kernel_rfl) (fun K hK => ?_)
  go_simp
  refine (HIA.out _ HS0.out.2.2.2.2.2).mono ?_
  rintro e W1 ⟨rfl, kk, os, hW1⟩
  have HS1 := Aside0.mk (show LS w fr tt kd wt W1 from hW1 ▸ HS0.out.below (grow_below _ kk os))
  clear hW1
  refine hK.out _ _ (fun _ => HS1.out) (fun _ => ?_)
  clear hK K
  try simp only [Act.put, List.setIfInBounds_toArray, List.set_cons_zero, List.set_cons_succ]
  refine wpAnyN_take (i := 4) (v := ?_) rfl (by kernel_rfl) (by kernel_rfl) (by kernel_rfl) (by kernel_rfl) (fun _ _ _ h => h) (.inl ⟨by rfl, ?_⟩) HS1.out ?_
  rotate_left
  · (intro W' hW'; obtain ⟨s0, s1, s2, s3, s4⟩ := hW'; go_simp; try rfl)
  simp only [Act.put, List.setIfInBounds_toArray, List.set_cons_zero, List.set_cons_succ]
  refine wpAnyN_one (i := 8) rfl (by kernel_rfl) (fun K hK => ?_)
  go_simp
  refine (HIB.out _ HS1.out.2.2.2.2.2).mono ?_
  rintro e W2 ⟨rfl, kk, os, hW2⟩
  have HS2 := Aside0.mk (show LS w fr tt kd wt W2 from hW2 ▸ HS1.out.below (grow_below _ kk os))
  clear hW2
  refine hK.out _ _ (fun _ => HS2.out) (fun _ => ?_)
  clear hK K
  try simp only [Act.put, List.setIfInBounds_toArray, List.set_cons_zero, List.set_cons_succ]
  refine wpAnyN_take (i := 9) (v := ?_) rfl (by kernel_rfl) (by kernel_rfl) (by kernel_rfl) (by kernel_rfl) (fun _ _ _ h => h) (.inl ⟨by rfl, ?_⟩) HS2.out ?_
  rotate_left
  · (intro W' hW'; obtain ⟨s0, s1, s2, s3, s4⟩ := hW'; go_simp; try rfl)
  simp only [Act.put, List.setIfInBounds_toArray, List.set_cons_zero, List.set_cons_succ]
  refine wpAnyN_take (i := 10) (v := ?_) rfl (by kernel_rfl) (by kernel_rfl) (by kernel_rfl) (by kernel_rfl) (fun _ _ _ h => h) (.inl ⟨by rfl, ?_⟩) HS2.out ?_
  rotate_left
  · (intro W' hW'; obtain ⟨s0, s1, s2, s3, s4⟩ := hW'; go_simp; try rfl)
  simp only [Act.put, List.setIfInBounds_toArray, List.set_cons_zero, List.set_cons_succ]
  refine wpAnyN_one (i := 11) rfl (by kernel_rfl) (fun K hK => ?_)
  go_simp
  refine hK.out _ _ (fun _ => HS2.out) (fun _ => ?_)
  clear hK K
  try simp only [Act.put, List.setIfInBounds_toArray, List.set_cons_zero, List.set_cons_succ]
  refine wpAnyN_done (by kernel_rfl) ?_ _
  refine NoPanic.normal ?_
  obtain ⟨H, hH⟩ : ∃ H, H = headB A B := ⟨_, rfl⟩
  rw [show A ++ { data := #[45] } ++ B ++ { data := #[58, 32] } = H from hH.symm]
  have hHs : H.size ≤ 45 := by rw [hH, headB]; simp only [ByteArray.size_append]; have e1 : (⟨#[45]⟩ : ByteArray).size = 1 := rfl; have e2 : (⟨#[58, 32]⟩ : ByteArray).size = 2 := rfl; omega
  have HH := Aside0.mk hH
  clear hH z1 z2 z3 HIA HIB
  have g0 := HS2.out.1
  have g1 := HS2.out.2.1
  have g2 := HS2.out.2.2.1
  have g3 := HS2.out.2.2.2.1
  have HB2 := Aside0.mk HS2.out.2.2.2.2.1
  have hle1 : ∀ k : Nat, (NAMES.getD k ByteArray.empty).size ≤ 10 := by
    intro k
    by_cases hk : k < NAMES.length
    · rw [List.getD_eq_getElem?_getD, List.getElem?_eq_getElem hk]
      have h : NAMES.all (fun b => b.size ≤ 10) = true := by decide +kernel
      simpa using List.all_eq_true.1 h _ (List.getElem_mem hk)
    · rw [List.getD_eq_getElem?_getD, List.getElem?_eq_none (by omega)]
      decide
  by_cases hkd : kd = 50
  · have hkd1 : (kd == 50) = true := by simp [hkd]
    obtain ⟨N, hN⟩ : ∃ N, N = NAMES.getD wt.toNat ByteArray.empty := ⟨_, rfl⟩
    have hNs : N.size ≤ 10 := by rw [hN]; exact hle1 _
    have hNC := Aside0.mk (fun W => hN ▸ name_calls wt hw0 hw1 W)
    have HN := Aside0.mk hN
    clear hN hle1
    have z1 : ¬ 9223372036854775807 < H.size + 8 := by omega
    have z2 : ¬ 9223372036854775807 < H.size + 8 + N.size := by omega
    go_wp2_with (go_at_call 7; refine (hNC.out _).mono ?_; rintro e w3 ⟨rfl, hb3⟩)
    go_ret
    refine ⟨?_, HB2.out.trans (hb3.mono HB2.out.size)⟩
    rw [lineB, if_pos hkd, ← HAB.out.1, ← HAB.out.2, ← HH.out, ← HN.out]
    rfl
  · have hkd1 : (kd == 50) = false := by simp [hkd]
    obtain ⟨N, hN⟩ : ∃ N, N = NAMES.getD kd.toNat ByteArray.empty := ⟨_, rfl⟩
    have hNs : N.size ≤ 10 := by rw [hN]; exact hle1 _
    have hNC := Aside0.mk (fun W => hN ▸ name_calls kd hk0 hk1 W)
    have HN := Aside0.mk hN
    clear hN hle1
    have hslen : (0 : Int) ≤ s.size := Int.natCast_nonneg _
    obtain ⟨p, hp⟩ : ∃ p : Int, p = if fr < 0 then 0 else fr := ⟨_, rfl⟩
    obtain ⟨q, hq⟩ : ∃ q : Int, q = if (s.size : Int) < p then (s.size : Int) else p := ⟨_, rfl⟩
    obtain ⟨r, hr⟩ : ∃ r : Int, r = if tt < q then q else tt := ⟨_, rfl⟩
    obtain ⟨u, hu⟩ : ∃ u : Int, u = if (s.size : Int) < r then (s.size : Int) else r := ⟨_, rfl⟩
    have m1 : Builtin.max2 (.int .i64 fr) (.int .i64 0) = pure (.int .i64 p) := by rw [max2_int]; congr 2; rw [hp]
    have m2 : Builtin.min2 (.int .i64 p) (.int .i64 (s.size : Int)) = pure (.int .i64 q) := by rw [min2_int]; congr 2; rw [hq]
    have m3 : Builtin.max2 (.int .i64 tt) (.int .i64 q) = pure (.int .i64 r) := by rw [max2_int]; congr 2; rw [hr]
    have m4 : Builtin.min2 (.int .i64 r) (.int .i64 (s.size : Int)) = pure (.int .i64 u) := by rw [min2_int]; congr 2; rw [hu]
    have hb : 0 ≤ q ∧ q ≤ s.size ∧ q ≤ u ∧ u ≤ s.size := by
      refine ⟨?_, ?_, ?_, ?_⟩ <;> (simp only [hu, hr, hq, hp]; repeat' split) <;> omega
    obtain ⟨b0, b1, b2, b3⟩ := hb
    have HU := Aside0.mk (And.intro hp (And.intro hq (And.intro hr hu)))
    clear hp hq hr hu
    obtain ⟨Sx, hSx⟩ : ∃ Sx : ByteArray, Sx = s.extract q.toNat u.toNat := ⟨_, rfl⟩
    have hSs : Sx.size ≤ 140737488355328 := by rw [hSx, ByteArray.size_extract]; omega
    have HSX := Aside0.mk hSx
    clear hSx
    have z1 : ¬ 9223372036854775807 < H.size + N.size := by omega
    have z2 : ¬ 9223372036854775807 < H.size + N.size + 1 := by omega
    have z3 : ¬ 9223372036854775807 < H.size + N.size + 1 + Sx.size := by omega
    go_wp2_with fail
    have HS3 := Aside0.mk (show LS w fr tt kd wt W2.drew from HS2.out.below (Below.refl _ _).drew)
    clear g0 g1 g2 g3
    refine wp_region_noPanic (plain_need [0, 1, 2, 3, 4, 5, 6, 7, 8, 9, 10, 11] (LS w fr tt kd wt) (by kernel_rfl) ?_)
    refine wpAnyN_take (i := 0) (v := ?_) rfl (by kernel_rfl) (by kernel_rfl) (by kernel_rfl) (by kernel_rfl) (fun _ _ _ h => h) (.inl ⟨by rfl, ?_⟩) HS3.out ?_
    rotate_left
    · (intro W' hW'; obtain ⟨s0, s1, s2, s3, s4⟩ := hW'; go_simp; try rfl)
    simp only [Act.put, List.setIfInBounds_toArray, List.set_cons_zero, List.set_cons_succ]
    refine wpAnyN_take (i := 1) (v := ?_) rfl (by kernel_rfl) (by kernel_rfl) (by kernel_rfl) (by kernel_rfl) (fun _ _ _ h => h) (.inl ⟨by rfl, ?_⟩) HS3.out ?_
    rotate_left
    · (intro W' hW'; obtain ⟨s0, s1, s2, s3, s4⟩ := hW'; go_simp; try rfl)
    simp only [Act.put, List.setIfInBounds_toArray, List.set_cons_zero, List.set_cons_succ]
    refine wpAnyN_take (i := 2) (v := ?_) rfl (by kernel_rfl) (by kernel_rfl) (by kernel_rfl) (by kernel_rfl) (fun _ _ _ h => h) (.inl ⟨by rfl, ?_⟩) HS3.out ?_
    rotate_left
    · (intro W' hW'; obtain ⟨s0, s1, s2, s3, s4⟩ := hW'; go_simp; try rfl)
    simp only [Act.put, List.setIfInBounds_toArray, List.set_cons_zero, List.set_cons_succ]
    refine wpAnyN_take (i := 6) (v := ?_) rfl (by kernel_rfl) (by kernel_rfl) (by kernel_rfl) (by kernel_rfl) (fun _ _ _ h => h) (.inl ⟨by rfl, ?_⟩) HS3.out ?_
    rotate_left
    · (intro W' hW'; obtain ⟨s0, s1, s2, s3, s4⟩ := hW'; go_simp; try rfl)
    simp only [Act.put, List.setIfInBounds_toArray, List.set_cons_zero, List.set_cons_succ]
    refine wpAnyN_take (i := 7) (v := ?_) rfl (by kernel_rfl) (by kernel_rfl) (by kernel_rfl) (by kernel_rfl) (fun _ _ _ h => h) (.inl ⟨by rfl, ?_⟩) HS3.out ?_
    rotate_left
    · (intro W' hW'; obtain ⟨s0, s1, s2, s3, s4⟩ := hW'; go_simp; try rfl)
    simp only [Act.put, List.setIfInBounds_toArray, List.set_cons_zero, List.set_cons_succ]
    refine wpAnyN_take (i := 8) (v := ?_) rfl (by kernel_rfl) (by kernel_rfl) (by kernel_rfl) (by kernel_rfl) (fun _ _ _ h => h) (.inl ⟨by rfl, ?_⟩) HS3.out ?_
    rotate_left
    · (intro W' hW'; obtain ⟨s0, s1, s2, s3, s4⟩ := hW'; go_simp; try rfl)
    simp only [Act.put, List.setIfInBounds_toArray, List.set_cons_zero, List.set_cons_succ]
    refine wpAnyN_take (i := 9) (v := .string Sx) rfl (by kernel_rfl) (by kernel_rfl) (by kernel_rfl) (by kernel_rfl) (fun _ _ _ h => h) (.inl ⟨by rfl, ?_⟩) HS3.out ?_
    · (intro W' hW'; obtain ⟨s0, s1, s2, s3, s4⟩ := hW'; go_simp; rw [HSX.out])
    simp only [Act.put, List.setIfInBounds_toArray, List.set_cons_zero, List.set_cons_succ]
    refine wpAnyN_one (i := 3) rfl (by kernel_rfl) (fun K hK => ?_)
    go_simp
    refine (hNC.out _).mono ?_
    rintro e W3 ⟨rfl, hb3⟩
    have HS4 := Aside0.mk (show LS w fr tt kd wt W3 from HS3.out.below hb3)
    clear hb3
    refine hK.out _ _ (fun _ => HS4.out) (fun _ => ?_)
    clear hK K
    try simp only [Act.put, List.setIfInBounds_toArray, List.set_cons_zero, List.set_cons_succ]
    refine wpAnyN_take (i := 4) (v := ?_) rfl (by kernel_rfl) (by kernel_rfl) (by kernel_rfl) (by kernel_rfl) (fun _ _ _ h => h) (.inl ⟨by rfl, ?_⟩) HS4.out ?_
    rotate_left
    · (intro W' hW'; obtain ⟨s0, s1, s2, s3, s4⟩ := hW'; go_simp; try rfl)
    simp only [Act.put, List.setIfInBounds_toArray, List.set_cons_zero, List.set_cons_succ]
    refine wpAnyN_take (i := 5) (v := ?_) rfl (by kernel_rfl) (by kernel_rfl) (by kernel_rfl) (by kernel_rfl) (fun _ _ _ h => h) (.inl ⟨by rfl, ?_⟩) HS4.out ?_
    rotate_left
    · (intro W' hW'; obtain ⟨s0, s1, s2, s3, s4⟩ := hW'; go_simp; try rfl)
    simp only [Act.put, List.setIfInBounds_toArray, List.set_cons_zero, List.set_cons_succ]
    refine wpAnyN_take (i := 10) (v := ?_) rfl (by kernel_rfl) (by kernel_rfl) (by kernel_rfl) (by kernel_rfl) (fun _ _ _ h => h) (.inl ⟨by rfl, ?_⟩) HS4.out ?_
    rotate_left
    · (intro W' hW'; obtain ⟨s0, s1, s2, s3, s4⟩ := hW'; go_simp; try rfl)
    simp only [Act.put, List.setIfInBounds_toArray, List.set_cons_zero, List.set_cons_succ]
    refine wpAnyN_one (i := 11) rfl (by kernel_rfl) (fun K hK => ?_)
    go_simp
    refine hK.out _ _ (fun _ => HS4.out) (fun _ => ?_)
    clear hK K
    try simp only [Act.put, List.setIfInBounds_toArray, List.set_cons_zero, List.set_cons_succ]
    refine wpAnyN_done (by kernel_rfl) ?_ _
    refine NoPanic.normal ?_
    go_wp2_with fail
    go_ret
    refine ⟨?_, HS4.out.2.2.2.2.1⟩
    obtain ⟨hp, hq, hr, hu⟩ := HU.out
    have eq1 : q = clampI 0 s.size fr := by rw [hq, hp]; rfl
    have eq2 : u = clampI q s.size tt := by rw [hu, hr]; rfl
    rw [lineB, if_neg hkd, ← HAB.out.1, ← HAB.out.2, ← HH.out, ← HN.out, ← eq1, ← eq2, ← HSX.out]
    rfl
#print axioms line_calls
set_option maxHeartbeats 8000000 in
set_option maxRecDepth 100000 in
theorem refLine_calls (s : ByteArray) (fr tt kd wt : Int) (h0 : -9223372036854775808 ≤ fr) (h1 : fr ≤ 9223372036854775807) (h2 : -9223372036854775808 ≤ tt) (h3 : tt ≤ 9223372036854775807)
    (hk0 : 0 ≤ kd) (hk1 : kd < 256) (hw0 : 0 ≤ wt) (hw1 : wt < 256) (hs : s.size ≤ 140737488355328) (w : World) :
    Calls Tryd.prog 5 #[.string s, .agg #[.int .i64 fr, .int .i64 tt, .int .u8 kd, .int .u8 wt]] w fun e w' => e = .returned (.string (lineB s fr tt kd wt)) ∧ Below w.heap.size w w' := by
  have hle := Lib.itoa_length_le fr h0 h1
  have hlf := Lib.itoa_length_le tt h2 h3
  obtain ⟨A, hA⟩ : ∃ A : ByteArray, A = itoaB fr := ⟨_, rfl⟩
  obtain ⟨B, hB⟩ : ∃ B : ByteArray, B = itoaB tt := ⟨_, rfl⟩
  have ha : A.size ≤ 21 := by rw [hA]; exact hle
  have hb : B.size ≤ 21 := by rw [hB]; exact hlf
  have HIA := Aside0.mk (fun (W : World) => (show A = (⟨(Lib.itoa fr).toArray⟩ : ByteArray) from hA) ▸ num_calls fr h0 h1 W)
  have HIB := Aside0.mk (fun (W : World) => (show B = (⟨(Lib.itoa tt).toArray⟩ : ByteArray) from hB) ▸ num_calls tt h2 h3 W)
  have HAB := Aside0.mk (And.intro hA hB)
  clear hA hB hle hlf
  have z2 : ¬ 9223372036854775807 < A.size + 1 + B.size := by omega
  have z3 : ¬ 9223372036854775807 < A.size + 1 + B.size + 2 := by omega
  have z1 : ¬ 9223372036854775807 < A.size + 1 := by omega
  go_enter Tryd.func5, Tryd.ntmps5
  go_wp2_with fail
  have HS0 := Aside0.mk (show LQ w fr tt kd wt (w.alloc (.cells #[.int .i64 fr, .int .i64 tt, .int .u8 kd, .int .u8 wt] 25)).drew from
    ⟨World.cell?_alloc_new _ _ _ 0, World.cell?_alloc_new _ _ _ 1, World.cell?_alloc_new _ _ _ 2, World.cell?_alloc_new _ _ _ 3, (Below.alloc (Below.refl _ _) (Nat.le_refl _) _).drew⟩)
  refine wp_region_noPanic (plain_need [0, 1, 2, 3, 4, 5, 6, 7, 8, 9, 10, 11, 12, 13] (LQ w fr tt kd wt) (by kernel_rfl) ?_)
  refine wpAnyN_take (i := 0) (v := ?_) rfl (by kernel_rfl) (by kernel_rfl) (by kernel_rfl) (by kernel_rfl) (fun _ _ _ h => h) (.inl ⟨by rfl, ?_⟩) HS0.out ?_
  rotate_left
  · (intro W' hW'; obtain ⟨s0, s1, s2, s3, s4⟩ := hW'; go_simp; try rfl)
  simp only [Act.put, List.setIfInBounds_toArray, List.set_cons_zero, List.set_cons_succ]
  refine wpAnyN_take (i := 6) (v := ?_) rfl (by kernel_rfl) (by kernel_rfl) (by kernel_rfl) (by kernel_rfl) (fun _ _ _ h => h) (.inl ⟨by rfl, ?_⟩) HS0.out ?_
  rotate_left
  · (intro W' hW'; obtain ⟨s0, s1, s2, s3, s4⟩ := hW'; go_simp; try rfl)
  simp only [Act.put, List.setIfInBounds_toArray, List.set_cons_zero, List.set_cons_succ]
  refine wpAnyN_take (i := 1) (v := ?_) rfl (by kernel_rfl) (by kernel_rfl) (by kernel_rfl) (by kernel_rfl) (fun _ _ _ h => h) (.inl ⟨by rfl, ?_⟩) HS0.out ?_
  rotate_left
  · (intro W' hW'; obtain ⟨s0, s1, s2, s3, s4⟩ := hW'; go_simp; try rfl)
  simp only [Act.put, List.setIfInBounds_toArray, List.set_cons_zero, List.set_cons_succ]
  refine wpAnyN_take (i := 7) (v := ?_) rfl (by kernel_rfl) (by kernel_rfl) (by kernel_rfl) (by kernel_rfl) (fun _ _ _ h => h) (.inl ⟨by rfl, ?_⟩) HS0.out ?_
  rotate_left
  · (intro W' hW'; obtain ⟨s0, s1, s2, s3, s4⟩ := hW'; go_simp; try rfl)
  simp only [Act.put, List.setIfInBounds_toArray, List.set_cons_zero, List.set_cons_succ]
  refine wpAnyN_take (i := 2) (v := ?_) rfl (by kernel_rfl) (by kernel_rfl) (by kernel_rfl) (by kernel_rfl) (fun _ _ _ h => h) (.inl ⟨by rfl, ?_⟩) HS0.out ?_
  rotate_left
  · (intro W' hW'; obtain ⟨s0, s1, s2, s3, s4⟩ := hW'; go_simp; try rfl)
  simp only [Act.put, List.setIfInBounds_toArray, List.set_cons_zero, List.set_cons_succ]
  refine wpAnyN_take (i := 8) (v := ?_) rfl (by kernel_rfl) (by kernel_rfl) (by kernel_rfl) (by kernel_rfl) (fun _ _ _ h => h) (.inl ⟨by rfl, ?_⟩) HS0.out ?_
  rotate_left
  · (intro W' hW'; obtain ⟨s0, s1, s2, s3, s4⟩ := hW'; go_simp; try rfl)
  simp only [Act.put, List.setIfInBounds_toArray, List.set_cons_zero, List.set_cons_succ]
  refine wpAnyN_one (i := 3) rfl (by kernel_rfl) (fun K hK => ?_)
  go_simp
  refine (HIA.out _).mono ?_
  rintro e W1 ⟨rfl, hb1⟩
  have HS1 := Aside0.mk (show LQ w fr tt kd wt W1 from HS0.out.below hb1)
  clear hb1
  refine hK.out _ _ (fun _ => HS1.out) (fun _ => ?_)
  clear hK K
  try simp only [Act.put, List.setIfInBounds_toArray, List.set_cons_zero, List.set_cons_succ]
  refine wpAnyN_take (i := 4) (v := ?_) rfl (by kernel_rfl) (by kernel_rfl) (by kernel_rfl) (by kernel_rfl) (fun _ _ _ h => h) (.inl ⟨by rfl, ?_⟩) HS1.out ?_
  rotate_left
  · (intro W' hW'; obtain ⟨s0, s1, s2, s3, s4⟩ := hW'; go_simp; try rfl)
  simp only [Act.put, List.setIfInBounds_toArray, List.set_cons_zero, List.set_cons_succ]
  refine wpAnyN_take (i := 5) (v := ?_) rfl (by kernel_rfl) (by kernel_rfl) (by kernel_rfl) (by kernel_rfl) (fun _ _ _ h => h) (.inl ⟨by rfl, ?_⟩) HS1.out ?_
  rotate_left
  · (intro W' hW'; obtain ⟨s0, s1, s2, s3, s4⟩ := hW'; go_simp; try rfl)
  simp only [Act.put, List.setIfInBounds_toArray, List.set_cons_zero, List.set_cons_succ]
  refine wpAnyN_one (i := 9) rfl (by kernel_rfl) (fun K hK => ?_)
  go_simp
  refine (HIB.out _).mono ?_
  rintro e W2 ⟨rfl, hb2⟩
  have HS2 := Aside0.mk (show LQ w fr tt kd wt W2 from HS1.out.below hb2)
  clear hb2
  refine hK.out _ _ (fun _ => HS2.out) (fun _ => ?_)
  clear hK K
  try simp only [Act.put, List.setIfInBounds_toArray, List.set_cons_zero, List.set_cons_succ]
  refine wpAnyN_take (i := 10) (v := ?_) rfl (by kernel_rfl) (by kernel_rfl) (by kernel_rfl) (by kernel_rfl) (fun _ _ _ h => h) (.inl ⟨by rfl, ?_⟩) HS2.out ?_
  rotate_left
  · (intro W' hW'; obtain ⟨s0, s1, s2, s3, s4⟩ := hW'; go_simp; try rfl)
  simp only [Act.put, List.setIfInBounds_toArray, List.set_cons_zero, List.set_cons_succ]
  refine wpAnyN_take (i := 11) (v := ?_) rfl (by kernel_rfl) (by kernel_rfl) (by kernel_rfl) (by kernel_rfl) (fun _ _ _ h => h) (.inl ⟨by rfl, ?_⟩) HS2.out ?_
  rotate_left
  · (intro W' hW'; obtain ⟨s0, s1, s2, s3, s4⟩ := hW'; go_simp; try rfl)
  simp only [Act.put, List.setIfInBounds_toArray, List.set_cons_zero, List.set_cons_succ]
  refine wpAnyN_take (i := 12) (v := ?_) rfl (by kernel_rfl) (by kernel_rfl) (by kernel_rfl) (by kernel_rfl) (fun _ _ _ h => h) (.inl ⟨by rfl, ?_⟩) HS2.out ?_
  rotate_left
  · (intro W' hW'; obtain ⟨s0, s1, s2, s3, s4⟩ := hW'; go_simp; try rfl)
  simp only [Act.put, List.setIfInBounds_toArray, List.set_cons_zero, List.set_cons_succ]
  refine wpAnyN_one (i := 13) rfl (by kernel_rfl) (fun K hK => ?_)
  go_simp
  refine hK.out _ _ (fun _ => HS2.out) (fun _ => ?_)
  clear hK K
  try simp only [Act.put, List.setIfInBounds_toArray, List.set_cons_zero, List.set_cons_succ]
  refine wpAnyN_done (by kernel_rfl) ?_ _
  refine NoPanic.normal ?_
  obtain ⟨H, hH⟩ : ∃ H, H = headB A B := ⟨_, rfl⟩
  rw [show A ++ { data := #[45] } ++ B ++ { data := #[58, 32] } = H from hH.symm]
  have hHs : H.size ≤ 45 := by rw [hH, headB]; simp only [ByteArray.size_append]; have e1 : (⟨#[45]⟩ : ByteArray).size = 1 := rfl; have e2 : (⟨#[58, 32]⟩ : ByteArray).size = 2 := rfl; omega
  have HH := Aside0.mk hH
  clear hH z1 z2 z3 HIA HIB
  have g0 := HS2.out.1
  have g1 := HS2.out.2.1
  have g2 := HS2.out.2.2.1
  have g3 := HS2.out.2.2.2.1
  have HB2 := Aside0.mk HS2.out.2.2.2.2
  have hle1 := names_le
  by_cases hkd : kd = 50
  · have hkd1 : (kd == 50) = true := by simp [hkd]
    obtain ⟨N, hN⟩ : ∃ N, N = NAMES.getD wt.toNat ByteArray.empty := ⟨_, rfl⟩
    have hNs : N.size ≤ 10 := by rw [hN]; exact hle1 _
    have hNC := Aside0.mk (fun W => hN ▸ refName_calls wt hw0 hw1 W)
    have HN := Aside0.mk hN
    clear hN hle1
    have z1 : ¬ 9223372036854775807 < H.size + 8 := by omega
    have z2 : ¬ 9223372036854775807 < H.size + 8 + N.size := by omega
    go_wp2_with (go_at_call 9; refine (hNC.out _).mono ?_; rintro e w3 ⟨rfl, hb3⟩)
    go_ret
    refine ⟨?_, HB2.out.trans (hb3.mono HB2.out.size)⟩
    rw [lineB, if_pos hkd, ← HAB.out.1, ← HAB.out.2, ← HH.out, ← HN.out]
    rfl
  · have hkd1 : (kd == 50) = false := by simp [hkd]
    obtain ⟨N, hN⟩ : ∃ N, N = NAMES.getD kd.toNat ByteArray.empty := ⟨_, rfl⟩
    have hNs : N.size ≤ 10 := by rw [hN]; exact hle1 _
    have hNC := Aside0.mk (fun W => hN ▸ refName_calls kd hk0 hk1 W)
    have HN := Aside0.mk hN
    clear hN hle1
    have hslen : (0 : Int) ≤ s.size := Int.natCast_nonneg _
    obtain ⟨q, hq⟩ : ∃ q : Int, q = clampI 0 s.size fr := ⟨_, rfl⟩
    obtain ⟨u, hu⟩ : ∃ u : Int, u = clampI q s.size tt := ⟨_, rfl⟩
    have hb : 0 ≤ q ∧ q ≤ s.size := by rw [hq]; unfold clampI; constructor <;> (repeat' split) <;> omega
    obtain ⟨b0, b1⟩ := hb
    have hb : q ≤ u ∧ u ≤ s.size := by rw [hu]; unfold clampI; constructor <;> (repeat' split) <;> omega
    obtain ⟨b2, b3⟩ := hb
    have HCQ := Aside0.mk (fun W => hq ▸ within_calls 0 s.size fr (by omega) W)
    have HCU := Aside0.mk (fun W => hu ▸ within_calls q s.size tt b1 W)
    have HU := Aside0.mk (And.intro hq hu)
    clear hq hu
    obtain ⟨Sx, hSx⟩ : ∃ Sx : ByteArray, Sx = s.extract q.toNat u.toNat := ⟨_, rfl⟩
    have hSs : Sx.size ≤ 140737488355328 := by rw [hSx, ByteArray.size_extract]; omega
    have HSX := Aside0.mk hSx
    clear hSx
    have z1 : ¬ 9223372036854775807 < H.size + N.size := by omega
    have z2 : ¬ 9223372036854775807 < H.size + N.size + 1 := by omega
    have z3 : ¬ 9223372036854775807 < H.size + N.size + 1 + Sx.size := by omega
    go_wp2_with (go_at_call 10; refine (HCQ.out _).mono ?_; rintro e w3 ⟨rfl, hb3⟩)
    have HS3 := Aside0.mk (show LQ w fr tt kd wt w3.drew from (HS2.out.below hb3).below (Below.refl _ _).drew)
    clear g0 g1 g2 g3 hb3
    refine wp_region_noPanic (plain_need [0, 1, 2, 3, 4, 5, 6, 7, 8, 9, 10, 11, 12, 13, 14, 15, 16, 17] (LQ w fr tt kd wt) (by kernel_rfl) ?_)
    refine wpAnyN_take (i := 0) (v := ?_) rfl (by kernel_rfl) (by kernel_rfl) (by kernel_rfl) (by kernel_rfl) (fun _ _ _ h => h) (.inl ⟨by rfl, ?_⟩) HS3.out ?_
    rotate_left
    · (intro W' hW'; obtain ⟨s0, s1, s2, s3, s4⟩ := hW'; go_simp; try rfl)
    simp only [Act.put, List.setIfInBounds_toArray, List.set_cons_zero, List.set_cons_succ]
    refine wpAnyN_take (i := 1) (v := ?_) rfl (by kernel_rfl) (by kernel_rfl) (by kernel_rfl) (by kernel_rfl) (fun _ _ _ h => h) (.inl ⟨by rfl, ?_⟩) HS3.out ?_
    rotate_left
    · (intro W' hW'; obtain ⟨s0, s1, s2, s3, s4⟩ := hW'; go_simp; try rfl)
    simp only [Act.put, List.setIfInBounds_toArray, List.set_cons_zero, List.set_cons_succ]
    refine wpAnyN_take (i := 2) (v := ?_) rfl (by kernel_rfl) (by kernel_rfl) (by kernel_rfl) (by kernel_rfl) (fun _ _ _ h => h) (.inl ⟨by rfl, ?_⟩) HS3.out ?_
    rotate_left
    · (intro W' hW'; obtain ⟨s0, s1, s2, s3, s4⟩ := hW'; go_simp; try rfl)
    simp only [Act.put, List.setIfInBounds_toArray, List.set_cons_zero, List.set_cons_succ]
    refine wpAnyN_take (i := 6) (v := ?_) rfl (by kernel_rfl) (by kernel_rfl) (by kernel_rfl) (by kernel_rfl) (fun _ _ _ h => h) (.inl ⟨by rfl, ?_⟩) HS3.out ?_
    rotate_left
    · (intro W' hW'; obtain ⟨s0, s1, s2, s3, s4⟩ := hW'; go_simp; try rfl)
    simp only [Act.put, List.setIfInBounds_toArray, List.set_cons_zero, List.set_cons_succ]
    refine wpAnyN_take (i := 7) (v := ?_) rfl (by kernel_rfl) (by kernel_rfl) (by kernel_rfl) (by kernel_rfl) (fun _ _ _ h => h) (.inl ⟨by rfl, ?_⟩) HS3.out ?_
    rotate_left
    · (intro W' hW'; obtain ⟨s0, s1, s2, s3, s4⟩ := hW'; go_simp; try rfl)
    simp only [Act.put, List.setIfInBounds_toArray, List.set_cons_zero, List.set_cons_succ]
    refine wpAnyN_take (i := 8) (v := ?_) rfl (by kernel_rfl) (by kernel_rfl) (by kernel_rfl) (by kernel_rfl) (fun _ _ _ h => h) (.inl ⟨by rfl, ?_⟩) HS3.out ?_
    rotate_left
    · (intro W' hW'; obtain ⟨s0, s1, s2, s3, s4⟩ := hW'; go_simp; try rfl)
    simp only [Act.put, List.setIfInBounds_toArray, List.set_cons_zero, List.set_cons_succ]
    refine wpAnyN_take (i := 9) (v := ?_) rfl (by kernel_rfl) (by kernel_rfl) (by kernel_rfl) (by kernel_rfl) (fun _ _ _ h => h) (.inl ⟨by rfl, ?_⟩) HS3.out ?_
    rotate_left
    · (intro W' hW'; obtain ⟨s0, s1, s2, s3, s4⟩ := hW'; go_simp; try rfl)
    simp only [Act.put, List.setIfInBounds_toArray, List.set_cons_zero, List.set_cons_succ]
    refine wpAnyN_take (i := 10) (v := ?_) rfl (by kernel_rfl) (by kernel_rfl) (by kernel_rfl) (by kernel_rfl) (fun _ _ _ h => h) (.inl ⟨by rfl, ?_⟩) HS3.out ?_
    rotate_left
    · (intro W' hW'; obtain ⟨s0, s1, s2, s3, s4⟩ := hW'; go_simp; try rfl)
    simp only [Act.put, List.setIfInBounds_toArray, List.set_cons_zero, List.set_cons_succ]
    refine wpAnyN_take (i := 11) (v := ?_) rfl (by kernel_rfl) (by kernel_rfl) (by kernel_rfl) (by kernel_rfl) (fun _ _ _ h => h) (.inl ⟨by rfl, ?_⟩) HS3.out ?_
    rotate_left
    · (intro W' hW'; obtain ⟨s0, s1, s2, s3, s4⟩ := hW'; go_simp; try rfl)
    simp only [Act.put, List.setIfInBounds_toArray, List.set_cons_zero, List.set_cons_succ]
    refine wpAnyN_take (i := 12) (v := ?_) rfl (by kernel_rfl) (by kernel_rfl) (by kernel_rfl) (by kernel_rfl) (fun _ _ _ h => h) (.inl ⟨by rfl, ?_⟩) HS3.out ?_
    rotate_left
    · (intro W' hW'; obtain ⟨s0, s1, s2, s3, s4⟩ := hW'; go_simp; try rfl)
    simp only [Act.put, List.setIfInBounds_toArray, List.set_cons_zero, List.set_cons_succ]
    refine wpAnyN_take (i := 13) (v := ?_) rfl (by kernel_rfl) (by kernel_rfl) (by kernel_rfl) (by kernel_rfl) (fun _ _ _ h => h) (.inl ⟨by rfl, ?_⟩) HS3.out ?_
    rotate_left
    · (intro W' hW'; obtain ⟨s0, s1, s2, s3, s4⟩ := hW'; go_simp; try rfl)
    simp only [Act.put, List.setIfInBounds_toArray, List.set_cons_zero, List.set_cons_succ]
    refine wpAnyN_one (i := 3) rfl (by kernel_rfl) (fun K hK => ?_)
    go_simp
    refine (hNC.out _).mono ?_
    rintro e W4 ⟨rfl, hb4⟩
    have HS4 := Aside0.mk (show LQ w fr tt kd wt W4 from HS3.out.below hb4)
    clear hb4
    refine hK.out _ _ (fun _ => HS4.out) (fun _ => ?_)
    clear hK K
    try simp only [Act.put, List.setIfInBounds_toArray, List.set_cons_zero, List.set_cons_succ]
    refine wpAnyN_take (i := 4) (v := ?_) rfl (by kernel_rfl) (by kernel_rfl) (by kernel_rfl) (by kernel_rfl) (fun _ _ _ h => h) (.inl ⟨by rfl, ?_⟩) HS4.out ?_
    rotate_left
    · (intro W' hW'; obtain ⟨s0, s1, s2, s3, s4⟩ := hW'; go_simp; try rfl)
    simp only [Act.put, List.setIfInBounds_toArray, List.set_cons_zero, List.set_cons_succ]
    refine wpAnyN_take (i := 5) (v := ?_) rfl (by kernel_rfl) (by kernel_rfl) (by kernel_rfl) (by kernel_rfl) (fun _ _ _ h => h) (.inl ⟨by rfl, ?_⟩) HS4.out ?_
    rotate_left
    · (intro W' hW'; obtain ⟨s0, s1, s2, s3, s4⟩ := hW'; go_simp; try rfl)
    simp only [Act.put, List.setIfInBounds_toArray, List.set_cons_zero, List.set_cons_succ]
    refine wpAnyN_one (i := 14) rfl (by kernel_rfl) (fun K hK => ?_)
    go_simp
    refine (HCU.out _).mono ?_
    rintro e W5 ⟨rfl, hb5⟩
    have HS5 := Aside0.mk (show LQ w fr tt kd wt W5 from HS4.out.below hb5)
    clear hb5
    refine hK.out _ _ (fun _ => HS5.out) (fun _ => ?_)
    clear hK K
    try simp only [Act.put, List.setIfInBounds_toArray, List.set_cons_zero, List.set_cons_succ]
    refine wpAnyN_take (i := 15) (v := .string Sx) rfl (by kernel_rfl) (by kernel_rfl) (by kernel_rfl) (by kernel_rfl) (fun _ _ _ h => h) (.inl ⟨by rfl, ?_⟩) HS5.out ?_
    · (intro W' hW'; obtain ⟨s0, s1, s2, s3, s4⟩ := hW'; go_simp; rw [HSX.out])
    simp only [Act.put, List.setIfInBounds_toArray, List.set_cons_zero, List.set_cons_succ]
    refine wpAnyN_take (i := 16) (v := ?_) rfl (by kernel_rfl) (by kernel_rfl) (by kernel_rfl) (by kernel_rfl) (fun _ _ _ h => h) (.inl ⟨by rfl, ?_⟩) HS5.out ?_
    rotate_left
    · (intro W' hW'; obtain ⟨s0, s1, s2, s3, s4⟩ := hW'; go_simp; try rfl)
    simp only [Act.put, List.setIfInBounds_toArray, List.set_cons_zero, List.set_cons_succ]
    refine wpAnyN_one (i := 17) rfl (by kernel_rfl) (fun K hK => ?_)
    go_simp
    refine hK.out _ _ (fun _ => HS5.out) (fun _ => ?_)
    clear hK K
    try simp only [Act.put, List.setIfInBounds_toArray, List.set_cons_zero, List.set_cons_succ]
    refine wpAnyN_done (by kernel_rfl) ?_ _
    refine NoPanic.normal ?_
    go_wp2_with fail
    go_ret
    refine ⟨?_, HS5.out.2.2.2.2⟩
    rw [lineB, if_neg hkd, ← HAB.out.1, ← HAB.out.2, ← HH.out, ← HN.out, ← HU.out.1, ← HU.out.2, ← HSX.out]
    rfl
#print axioms refLine_calls
end Go.Proofs.YtceddikbmbadlaaDoor.H
