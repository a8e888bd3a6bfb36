/- The document's cache: Put. -/
import Derived.Test.YtaphacgdokhmmaaDoorVHRefDrop
set_option linter.unusedVariables false
set_option linter.unusedSimpArgs false
namespace Go.Proofs.YtaphacgdokhmmaaDoor.H
open Go.RowKit Go.Shelf Go.Proofs.YtaphacgdokhmmaaDoorW.PrintWords Go.Proofs.YtaphacgdokhmmaaDoorW.PrintLast Go.Proofs.YtaphacgdokhmmaaDoorW.PrintMore
theorem info74 : (Tryd.prog.info? 74).map (fun i => (i.zero, i.size, i.bytes)) = some (some (.agg #[.string ⟨#[]⟩, .string ⟨#[]⟩, .slice none 0 0, .bool false]), 4, 64) := by kernel_rfl
theorem R_empty {Y : World} {g base : Nat} {ok : Nat → Prop} (hY : Y.heap[g]? = some (.cells #[] 3 (0, 0))) (hg : base ≤ g) (hok : ok g) : Kd.R (Kd.int .i64) 3 Y base ok (.slice (some ⟨g, 0, none⟩) 0 0) [] :=
  ⟨fun k hk => by obtain rfl : g = k := by simpa [Value.ownBlock] using hk
                  exact hok, [], ⟨rfl, .inr ⟨g, 0, #[], rfl, hg, hY, Nat.le_refl _, Nat.zero_le _, rfl, rfl⟩⟩, Reps.none _ _⟩
theorem put_FK {X : World} {okp : Nat → Prop} {u id : ByteArray} {A : Option Addr} {c : Nat} {l : List Int} (hc : l.length ≤ c) (hF : Kd.F (Kd.int .i64) X okp A l.length l) : kput.FK X okp (u, id, l, false) [.string u, .string id, .slice A l.length c, .bool false] :=
  fun W' hW' => ⟨[.string u], _, rfl, rfl, [.string id], _, rfl, rfl, [.slice A l.length c], _, rfl, ⟨A, c, rfl, hc, hF W' hW'⟩, rfl⟩
set_option maxHeartbeats 8000000 in
set_option maxRecDepth 100000 in
theorem rput_calls (Fr : Nat → Prop) (b c : Nat) (A : Option Addr) (L : List PutR) (W : World) (h : RC Fr W b A c L) (hlt : ∀ q, Fr q → q < W.heap.size) (u : ByteArray) (A2 : Option Addr) (c2 : Nat) (l : List Int) (hC : Kd.C (Kd.int .i64) W A2 l.length l) (hl : l.length ≤ 60000) (hL : L.length ≤ 100000) :
    Calls Tryd.prog 17 #[.pointer (some ⟨b, 0, none⟩), .string u, .slice A2 l.length c2] W fun e W' => e = .returned (.string (dec ((L.length : Int) + 1))) ∧ ∃ A' c', RC (more Fr W W') W' b A' c' (L ++ [(u, dec ((L.length : Int) + 1), l, false)]) ∧ Chg Fr W W' := by
  have HX := Aside0.mk h
  have HL := Aside0.mk hL
  have HLL := Aside0.mk hl
  have HCC := Aside0.mk hC
  have HLT := Aside0.mk hlt
  have c0 := h.cell
  obtain ⟨k, hk⟩ := digits_dec (L.length + 1) (by omega) (by omega)
  obtain ⟨id, hid⟩ : ∃ id, id = dec ((L.length : Int) + 1) := ⟨_, rfl⟩
  have HDG := Aside0.mk (show glossatorref25_digits.f k ((L.length : Int) + 1) = some id by rw [hid]; push_cast at hk; exact hk)
  rw [← hid]
  clear h hl hC hlt hk hid
  go_enter Tryd.func17, Tryd.ntmps17
  go_upto_region 2 with (go_at_call 28; refine (glossatorref25_digits.calls k ((L.length : Int) + 1) id W HDG.out).mono ?_; rintro e w1 ⟨rfl, hb_⟩; have HB1 := Aside0.mk hb_; clear hb_)
  refine wp_region_noPanic (plain_need [0, 1, 2, 3, 4, 5, 6, 7, 8, 9, 10, 11, 12, 13, 14] (fun W' => W'.cell? ⟨b, 0, none⟩ = some (.slice A L.length c)) (by kernel_rfl) ?_)
  obtain ⟨wd, hwd⟩ : ∃ wd, wd = w1.drew := ⟨_, rfl⟩
  rw [← hwd]
  have HBD := Aside0.mk (show Below W.heap.size W wd by rw [hwd]; exact HB1.out.trans (((Below.refl _ _).drew).mono HB1.out.size))
  have HS0 := Aside0.mk (show wd.cell? ⟨b, 0, none⟩ = some (.slice A L.length c) from (HX.out.below HBD.out).cell)
  clear hwd c0 hL
  refine wpAnyN_take (i := 0) (v := ?_) rfl (by kernel_rfl) (by kernel_rfl) (by kernel_rfl) (by kernel_rfl) (fun _ _ _ h => h) (.inl ⟨by rfl, ?_⟩) HS0.out ?_
  rotate_left
  · (intro W' hW'; have s0 := hW'; go_simp; try rfl)
  simp only [Act.put, List.setIfInBounds_toArray, List.set_cons_zero, List.set_cons_succ]
  refine wpAnyN_take (i := 1) (v := ?_) rfl (by kernel_rfl) (by kernel_rfl) (by kernel_rfl) (by kernel_rfl) (fun _ _ _ h => h) (.inl ⟨by rfl, ?_⟩) HS0.out ?_
  rotate_left
  · (intro W' hW'; have s0 := hW'; go_simp; try rfl)
  simp only [Act.put, List.setIfInBounds_toArray, List.set_cons_zero, List.set_cons_succ]
  refine wpAnyN_take (i := 2) (v := ?_) rfl (by kernel_rfl) (by kernel_rfl) (by kernel_rfl) (by kernel_rfl) (fun _ _ _ h => h) (.inl ⟨by rfl, ?_⟩) HS0.out ?_
  rotate_left
  · (intro W' hW'; have s0 := hW'; go_simp; try rfl)
  simp only [Act.put, List.setIfInBounds_toArray, List.set_cons_zero, List.set_cons_succ]
  refine wpAnyN_take (i := 3) (v := ?_) rfl (by kernel_rfl) (by kernel_rfl) (by kernel_rfl) (by kernel_rfl) (fun _ _ _ h => h) (.inl ⟨by rfl, ?_⟩) HS0.out ?_
  rotate_left
  · (intro W' hW'; have s0 := hW'; go_simp; try rfl)
  simp only [Act.put, List.setIfInBounds_toArray, List.set_cons_zero, List.set_cons_succ]
  refine wpAnyN_take (i := 4) (v := ?_) rfl (by kernel_rfl) (by kernel_rfl) (by kernel_rfl) (by kernel_rfl) (fun _ _ _ h => h) (.inl ⟨by rfl, ?_⟩) HS0.out ?_
  rotate_left
  · (intro W' hW'; have s0 := hW'; go_simp; try rfl)
  simp only [Act.put, List.setIfInBounds_toArray, List.set_cons_zero, List.set_cons_succ]
  refine wpAnyN_take (i := 5) (v := ?_) rfl (by kernel_rfl) (by kernel_rfl) (by kernel_rfl) (by kernel_rfl) (fun _ _ _ h => h) (.inl ⟨by rfl, ?_⟩) HS0.out ?_
  rotate_left
  · (intro W' hW'; have s0 := hW'; go_simp; try rfl)
  simp only [Act.put, List.setIfInBounds_toArray, List.set_cons_zero, List.set_cons_succ]
  refine wpAnyN_take (i := 6) (v := ?_) rfl (by kernel_rfl) (by kernel_rfl) (by kernel_rfl) (by kernel_rfl) (fun _ _ _ h => h) (.inl ⟨by rfl, ?_⟩) HS0.out ?_
  rotate_left
  · (intro W' hW'; have s0 := hW'; go_simp; try rfl)
  simp only [Act.put, List.setIfInBounds_toArray, List.set_cons_zero, List.set_cons_succ]
  refine wpAnyN_take (i := 8) (v := ?_) rfl (by kernel_rfl) (by kernel_rfl) (by kernel_rfl) (by kernel_rfl) (fun _ _ _ h => h) (.inl ⟨by rfl, ?_⟩) HS0.out ?_
  rotate_left
  · (intro W' hW'; have s0 := hW'; go_simp; try rfl)
  simp only [Act.put, List.setIfInBounds_toArray, List.set_cons_zero, List.set_cons_succ]
  obtain ⟨Y0, hY0⟩ : ∃ Y0, Y0 = wd.alloc (.cells #[] 3) := ⟨_, rfl⟩
  have HBY0 := Aside0.mk (show Below W.heap.size W Y0 by rw [hY0]; exact HBD.out.trans ((below_alloc (Below.refl _ _) _).mono HBD.out.size))
  have HSZ0 := Aside0.mk (show wd.heap.size < Y0.heap.size by rw [hY0]; simp)
  have HR0 := Aside0.mk (show Kd.R (Kd.int .i64) 3 Y0 W.heap.size (fun q => W.heap.size ≤ q) (.slice (some ⟨wd.heap.size, 0, none⟩) 0 0) [] from R_empty (by rw [hY0]; exact heap_alloc_new _ _) HBD.out.size HBD.out.size)
  have HS1 := Aside0.mk (show Y0.cell? ⟨b, 0, none⟩ = some (.slice A L.length c) from (HX.out.below HBY0.out).cell)
  refine wpAnyN_one (i := 7) rfl (by kernel_rfl) (fun K hK => ?_)
  go_simp
  rw [← hY0]
  refine hK.out _ _ (fun _ => HS1.out) (fun _ => ?_)
  clear hK K
  try simp only [Act.put, List.setIfInBounds_toArray, List.set_cons_zero, List.set_cons_succ]
  clear hY0
  refine wpAnyN_one (i := 9) rfl (by kernel_rfl) (fun K hK => ?_)
  refine Kd.R_append_rows_step (Kd.int .i64) (w0 := W) W.heap.size (by rfl) (.tmp 22) (.tmp 23) 34 3 (.int .i64 0) 8 rfl Tryd.underlying34 info3 rfl (by decide) (by omega) (.slice (some ⟨wd.heap.size, 0, none⟩) 0 0) [] l _ _ _ (fun q => W.heap.size ≤ q) (fun _ => False) rfl rfl HR0.out (Kd.C_below HCC.out HBY0.out) (fun _ _ h => h) (fun _ h => h.elim) (fun q hq => Nat.le_trans HBY0.out.size hq) HBY0.out HBY0.out.size (by have := HLL.out; simp only [List.length_nil]; omega) ?_
  intro v9 w9 ho9 hb9 hg9 hat9
  rw [List.nil_append] at ho9
  obtain ⟨A9, c9, rfl, hc9, _⟩ := Kd.R_reads ho9
  have HO9 := Aside0.mk ho9
  have HB9 := Aside0.mk hb9
  have HC9 := Aside0.mk hc9
  have HS2 := Aside0.mk (show w9.cell? ⟨b, 0, none⟩ = some (.slice A L.length c) from (HX.out.below hb9).cell)
  clear ho9 hb9 hc9 hg9 hat9
  refine hK.out _ _ (fun _ => HS2.out) (fun _ => ?_)
  clear hK K
  try simp only [Act.put, List.setIfInBounds_toArray, List.set_cons_zero, List.set_cons_succ]
  refine wpAnyN_one (i := 10) rfl (by kernel_rfl) (fun K hK => ?_)
  go_simp
  refine hK.out _ _ (fun _ => HS2.out) (fun _ => ?_)
  clear hK K
  try simp only [Act.put, List.setIfInBounds_toArray, List.set_cons_zero, List.set_cons_succ]
  obtain ⟨Y, hY⟩ : ∃ Y, Y = w9.alloc (.cells #[.string u, .string id, .slice A9 l.length c9, .bool false] 74) := ⟨_, rfl⟩
  have HBY := Aside0.mk (show Below w9.heap.size w9 Y by rw [hY]; exact below_alloc (Below.refl _ _) _)
  have HNW := Aside0.mk (show Y.heap[w9.heap.size]? = some (.cells #[.string u, .string id, .slice A9 l.length c9, .bool false] 74 (0, 0)) by rw [hY]; exact heap_alloc_new _ _)
  have HS3 := Aside0.mk (show Y.cell? ⟨b, 0, none⟩ = some (.slice A L.length c) from (HX.out.below (HB9.out.trans (HBY.out.mono HB9.out.size))).cell)
  refine wpAnyN_one (i := 11) rfl (by kernel_rfl) (fun K hK => ?_)
  go_simp
  rw [← hY]
  refine hK.out _ _ (fun _ => HS3.out) (fun _ => ?_)
  clear hK K
  try simp only [Act.put, List.setIfInBounds_toArray, List.set_cons_zero, List.set_cons_succ]
  clear hY
  have hRX := HX.out.below HB9.out
  have hrl : ∀ k, (Value.slice A L.length c).ownBlock = some k → k < W.heap.size := fun k hk => HLT.out k (HX.out.row.1 k hk).1
  obtain ⟨g, cap, w5, hrun, hgr, hat, _, _, hN5⟩ := append_elemN kput 74 29 (X := w9) (Y := Y) (base := 0) (ok := fun q => (Fr q ∧ q ≠ b) ∨ W.heap.size ≤ q) (okp := fun q => W.heap.size ≤ q) (Kd.N_mono hRX.row (fun q hq => .inl hq)) (Nat.zero_le _) (fun k hk => .inr (Nat.le_trans HB9.out.size hk)) Tryd.underlying29 info74 rfl (show 0 < 4 by decide) (by omega) (by have := HL.out; omega) HBY.out (u, id, l, false) [.string u, .string id, .slice A9 l.length c9, .bool false] HNW.out (put_FK HC9.out (Kd.F_mono (Kd.F_bound (Kd.R_F HO9.out)) (fun q hq => hq.1))) (fun k hk => ⟨.inr hk, fun e => by have := hrl k e.symm; omega⟩)
  have hbW : b < W.heap.size := HLT.out b HX.out.fb
  have hbo : (Value.slice A L.length c).ownBlock ≠ some b := fun e => (HX.out.row.1 b e).2 rfl
  have HBB := Aside0.mk ((hgr.block b (blk_lt hRX.blk) (fun e => hbo e.symm)).trans hRX.blk)
  have HN5 := Aside0.mk hN5
  have HCH := Aside0.mk (show Chg Fr W w5 from ⟨hgr.os.trans HB9.out.os, hgr.tape.trans HB9.out.tape, hgr.output.trans HB9.out.output, Nat.le_trans HB9.out.size hgr.size, fun q hq hf => (hgr.block q (Nat.lt_of_lt_of_le hq HB9.out.size) (fun e => hf (HX.out.row.1 q e.symm).1)).trans (HB9.out.block q hq)⟩)
  have hs4 := blk_cell HBB.out 0
  simp at hs4
  have HS4 := Aside0.mk hs4
  clear hs4 hgr hat hN5 hRX hrl hbo
  refine wpAnyN_one (i := 12) rfl (by kernel_rfl) (fun K hK => ?_)
  refine wp_append_run (by rfl) (.tmp 19) (.tmp 26) 29 rfl hrun ?_
  refine hK.out _ _ (fun _ => HS4.out) (fun _ => ?_)
  clear hK K
  try simp only [Act.put, List.setIfInBounds_toArray, List.set_cons_zero, List.set_cons_succ]
  clear hrun
  refine wpAnyN_one (i := 13) rfl (by kernel_rfl) (fun K hK => ?_)
  go_simp
  refine hK.out _ _ (fun _ => HS4.out) (fun _ => ?_)
  clear hK K
  try simp only [Act.put, List.setIfInBounds_toArray, List.set_cons_zero, List.set_cons_succ]
  refine wpAnyN_one (i := 14) rfl (by kernel_rfl) (fun K hK => ?_)
  go_simp
  refine hK.out _ _ (fun _ => HS4.out) (fun _ => ?_)
  clear hK K
  try simp only [Act.put, List.setIfInBounds_toArray, List.set_cons_zero, List.set_cons_succ]
  have f0 := blk_frozen HBB.out 0
  refine wpAnyN_one (i := 15) rfl (by kernel_rfl) (fun K hK => ?_)
  go_simp
  refine hK.out _ _ (fun h => Bool.noConfusion (show false = true from h)) (fun _ => ?_)
  clear hK K
  try simp only [Act.put, List.setIfInBounds_toArray, List.set_cons_zero, List.set_cons_succ]
  refine wpAnyN_done (by kernel_rfl) (NoPanic.normal ?_) _
  go_wp2_with fail
  go_ret
  refine ⟨rfl, ⟨some ⟨g, 0, none⟩, cap, ⟨?_, .inl HX.out.fb, ?_⟩⟩, ?_⟩
  · have := blk_set HBB.out 0 (.slice (some ⟨g, 0, none⟩) (L.length + 1) cap)
    rw [List.length_append, List.length_singleton]
    simpa using this
  · have h1 := Kd.N_step (w1 := w5.setCell ⟨b, 0, none⟩ (.slice (some ⟨g, 0, none⟩) (L.length + 1) cap)) HN5.out (fun q hq _ => Below.heap_setCell _ _ _ _ (show q ≠ b by rcases hq with hq | hq; exact hq.2; omega))
    rw [List.length_append, List.length_singleton]
    exact Kd.N_mono (Kd.N_bound h1) (fun q hq => by
      rcases hq.1 with h2 | h2
      · exact ⟨.inl h2.1, h2.2⟩
      · exact ⟨.inr ⟨h2, hq.2⟩, by omega⟩)
  · exact HCH.out.trans_ ⟨by simp [World.setCell], by simp [World.setCell], by simp [World.setCell], by simp, fun q hq hf => Below.heap_setCell _ _ _ _ (show q ≠ b from fun e => hf (e ▸ HX.out.fb))⟩
end Go.Proofs.YtaphacgdokhmmaaDoor.H
