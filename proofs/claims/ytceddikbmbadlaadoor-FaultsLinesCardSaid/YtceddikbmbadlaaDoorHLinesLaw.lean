/- FaultsLines, walked. -/
import Derived.Test.YtceddikbmbadlaaDoorHLine
set_option linter.unusedVariables false
set_option linter.unusedSimpArgs false
namespace Go.Proofs.YtceddikbmbadlaaDoor.H
open Go.RowKit Go.Proofs.YtceddikbmbadlaaDoorW.PrintWords Go.Proofs.YtceddikbmbadlaaDoorW.PrintLast Go.Proofs.YtceddikbmbadlaaDoorW.PrintMore
set_option maxHeartbeats 8000000 in
set_option maxRecDepth 100000 in
theorem lines_calls (s : ByteArray) (fr tt kd wt : Int) (h0 : -9223372036854775808 ≤ fr) (h1 : fr ≤ 9223372036854775807) (h2 : -9223372036854775808 ≤ tt) (h3 : tt ≤ 9223372036854775807)
    (hk0 : 0 ≤ kd) (hk1 : kd < 256) (hw0 : 0 ≤ wt) (hw1 : wt < 256) (hs : s.size ≤ 140737488355328) (w : World) (htab : Lib.TabIs Tryd.prog w "internal/strconv.uint64pow10" .u64 Lib.pow10Tab) :
    Calls Tryd.prog 3 #[.string s, .agg #[.int .i64 fr, .int .i64 tt, .int .u8 kd, .int .u8 wt]] w fun e w' => e = .returned (.bool true) ∧ Below w.heap.size w w' := by
  have HT := Aside0.mk (fun (W : World) (hb : Below w.heap.size w W) => by
    obtain ⟨g, hg⟩ := table_named
    exact line_calls s fr tt kd wt h0 h1 h2 h3 hk0 hk1 hw0 hw1 hs W (Go.Joins.tab_stays hg htab hb (Nat.le_refl _)))
  have HR := Aside0.mk (fun (W : World) => refLine_calls s fr tt kd wt h0 h1 h2 h3 hk0 hk1 hw0 hw1 hs W)
  obtain ⟨L, hL⟩ : ∃ L, L = lineB s fr tt kd wt := ⟨_, rfl⟩
  rw [← hL] at HT HR
  clear hL
  go_enter Tryd.func3, Tryd.ntmps3
  go_wp2_with fail
  have hu := Tryd.underlying25
  have HS0 := Aside0.mk (show LQ w fr tt kd wt (w.alloc (.cells #[.int .i64 fr, .int .i64 tt, .int .u8 kd, .int .u8 wt] 25)).drew from
    ⟨World.cell?_alloc_new _ _ _ 0, World.cell?_alloc_new _ _ _ 1, World.cell?_alloc_new _ _ _ 2, World.cell?_alloc_new _ _ _ 3, (Below.alloc (Below.refl _ _) (Nat.le_refl _) _).drew⟩)
  refine wp_region_noPanic (plain_need [0, 1, 2, 3, 4, 5, 6, 7] (LQ w fr tt kd wt) (by kernel_rfl) ?_)
  refine wpAnyN_take (i := 0) (v := ?_) rfl (by kernel_rfl) (by kernel_rfl) (by kernel_rfl) (by kernel_rfl) (fun _ _ _ h => h) (.inl ⟨by rfl, ?_⟩) HS0.out ?_
  rotate_left
  · (intro W' hW'; obtain ⟨s0, s1, s2, s3, s4⟩ := hW'; go_simp; try rfl)
  simp only [Act.put, List.setIfInBounds_toArray, List.set_cons_zero, List.set_cons_succ]
  refine wpAnyN_take (i := 3) (v := ?_) rfl (by kernel_rfl) (by kernel_rfl) (by kernel_rfl) (by kernel_rfl) (fun _ _ _ h => h) (.inl ⟨by rfl, ?_⟩) HS0.out ?_
  rotate_left
  · (intro W' hW'; obtain ⟨s0, s1, s2, s3, s4⟩ := hW'; go_simp; try rfl)
  simp only [Act.put, List.setIfInBounds_toArray, List.set_cons_zero, List.set_cons_succ]
  refine wpAnyN_take (i := 1) (v := .agg #[.int .i64 fr, .int .i64 tt, .int .u8 kd, .int .u8 wt]) rfl (by kernel_rfl) (by kernel_rfl) (by kernel_rfl) (by kernel_rfl) (fun _ _ _ h => h) (.inl ⟨by rfl, ?_⟩) HS0.out ?_
  · (intro W' hW'; obtain ⟨s0, s1, s2, s3, s4⟩ := hW'; go_simp; try rfl)
  simp only [Act.put, List.setIfInBounds_toArray, List.set_cons_zero, List.set_cons_succ]
  refine wpAnyN_take (i := 4) (v := .agg #[.int .i64 fr, .int .i64 tt, .int .u8 kd, .int .u8 wt]) rfl (by kernel_rfl) (by kernel_rfl) (by kernel_rfl) (by kernel_rfl) (fun _ _ _ h => h) (.inl ⟨by rfl, ?_⟩) HS0.out ?_
  · (intro W' hW'; obtain ⟨s0, s1, s2, s3, s4⟩ := hW'; go_simp; try rfl)
  simp only [Act.put, List.setIfInBounds_toArray, List.set_cons_zero, List.set_cons_succ]
  refine wpAnyN_one (i := 2) rfl (by kernel_rfl) (fun K hK => ?_)
  go_simp
  refine (HT.out _ HS0.out.2.2.2.2).mono ?_
  rintro e W1 ⟨rfl, hb1⟩
  have HS1 := Aside0.mk (show LQ w fr tt kd wt W1 from HS0.out.below hb1)
  clear hb1
  refine hK.out _ _ (fun _ => HS1.out) (fun _ => ?_)
  clear hK K
  try simp only [Act.put, List.setIfInBounds_toArray, List.set_cons_zero, List.set_cons_succ]
  refine wpAnyN_one (i := 5) rfl (by kernel_rfl) (fun K hK => ?_)
  go_simp
  refine (HR.out _).mono ?_
  rintro e W2 ⟨rfl, hb2⟩
  have HS2 := Aside0.mk (show LQ w fr tt kd wt W2 from HS1.out.below hb2)
  clear hb2
  refine hK.out _ _ (fun _ => HS2.out) (fun _ => ?_)
  clear hK K
  try simp only [Act.put, List.setIfInBounds_toArray, List.set_cons_zero, List.set_cons_succ]
  refine wpAnyN_take (i := 6) (v := .bool true) rfl (by kernel_rfl) (by kernel_rfl) (by kernel_rfl) (by kernel_rfl) (fun _ _ _ h => h) (.inl ⟨by rfl, ?_⟩) HS2.out ?_
  · (intro W' hW'; obtain ⟨s0, s1, s2, s3, s4⟩ := hW'; go_simp; try rfl)
  simp only [Act.put, List.setIfInBounds_toArray, List.set_cons_zero, List.set_cons_succ]
  refine wpAnyN_one (i := 7) rfl (by kernel_rfl) (fun K hK => ?_)
  go_simp
  refine hK.out _ _ (fun _ => HS2.out) (fun _ => ?_)
  clear hK K
  try simp only [Act.put, List.setIfInBounds_toArray, List.set_cons_zero, List.set_cons_succ]
  refine wpAnyN_done (by kernel_rfl) ?_ _
  refine NoPanic.normal ?_
  go_wp2_with fail
  go_ret
  exact ⟨rfl, HS2.out.2.2.2.2⟩
#print axioms lines_calls
end Go.Proofs.YtceddikbmbadlaaDoor.H
