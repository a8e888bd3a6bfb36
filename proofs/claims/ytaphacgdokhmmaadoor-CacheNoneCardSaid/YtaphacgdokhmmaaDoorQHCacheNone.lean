/- CacheNone: the law walked. -/
import Derived.Test.YtaphacgdokhmmaaDoorQHCacheNew
import Derived.Lib.AppendIntMem
set_option linter.unusedVariables false
set_option linter.unusedSimpArgs false
namespace Go.Proofs.YtaphacgdokhmmaaDoor.H
open Go.RowKit Go.Shelf Go.Proofs.YtaphacgdokhmmaaDoorW.PrintWords Go.Proofs.YtaphacgdokhmmaaDoorW.PrintLast Go.Proofs.YtaphacgdokhmmaaDoorW.PrintMore
open Go.MuLone
theorem tab_heap {W W' : World} (h : Tab W) (hk : ∀ q, q < W.heap.size → W'.heap[q]? = W.heap[q]?) : Tab W' := by
  have hs : W.heap.size ≤ W'.heap.size := by
    rcases Nat.eq_zero_or_pos W.heap.size with e | e
    · omega
    · have h1 := (hk (W.heap.size - 1) (by omega)).trans (Array.getElem?_eq_getElem (by omega))
      have := (Array.getElem?_eq_some_iff.1 h1).1
      omega
  have := Lib.tabBelow_of_tabIs h { W' with os := W.os, tape := W.tape, output := W.output } ⟨rfl, rfl, rfl, hs, hk⟩
  exact this
theorem F_nil (ok : Nat → Prop) (W : World) : Kd.F (Kd.int .i64) W ok none ([] : List Int).length [] := fun W' _ => ⟨rfl, by simp, fun h => absurd h (by simp)⟩
theorem dec_one : dec 1 = ⟨#[49]⟩ := by decide +kernel
set_option maxHeartbeats 8000000 in
set_option maxRecDepth 100000 in
theorem none_law (k : Int) (uri id : ByteArray) (A : Option Addr) (l c : Nat) (W : World) (hu : uri.size ≤ maxLen) (htab : Tab W) :
    Calls Tryd.prog 4 #[.agg #[.int .i64 k, .string uri, .string id, .slice A l c]] W fun e w' => e = .returned (.bool true) ∧ Below W.heap.size W w' := by
  have HU := Aside0.mk hu
  have HT := Aside0.mk htab
  clear hu htab
  go_enter Tryd.func4, Tryd.ntmps4
  go_upto_region 3 with (fail)
  obtain ⟨X1, hX1⟩ : ∃ X, X = W.alloc (.cells #[.int .i64 k, .string uri, .string id, .slice A l c] 36) := ⟨_, rfl⟩
  obtain ⟨X2, hX2⟩ : ∃ X, X = X1.alloc (.cells #[.int .i64 0, .int .i32 0, .int .u32 0, .map none] 51) := ⟨_, rfl⟩
  obtain ⟨X, hX⟩ : ∃ X, X = X2.alloc (.cells #[.pointer none, .pointer (some ⟨W.heap.size + 1, 0, none⟩)] 25) := ⟨_, rfl⟩
  have s1 : X1.heap.size = W.heap.size + 1 := by rw [hX1]; simp
  have s2 : X2.heap.size = W.heap.size + 2 := by rw [hX2]; simp [s1]
  have b1 : Below W.heap.size W X1 := by rw [hX1]; exact below_alloc (Below.refl _ _) _
  have b2 : Below X1.heap.size X1 X2 := by rw [hX2]; exact below_alloc (Below.refl _ _) _
  have b3 : Below X2.heap.size X2 X := by rw [hX]; exact below_alloc (Below.refl _ _) _
  have k1 : X1.heap[W.heap.size]? = some (.cells #[.int .i64 k, .string uri, .string id, .slice A l c] 36 (0, 0)) := by rw [hX1]; exact heap_alloc_new _ _
  have k2 : X2.heap[W.heap.size + 1]? = some (.cells #[.int .i64 0, .int .i32 0, .int .u32 0, .map none] 51 (0, 0)) := by rw [hX2, ← s1]; exact heap_alloc_new _ _
  have k3 : X.heap[W.heap.size + 1 + 1]? = some (.cells #[.pointer none, .pointer (some ⟨W.heap.size + 1, 0, none⟩)] 25 (0, 0)) := by rw [hX, show W.heap.size + 1 + 1 = X2.heap.size by omega]; exact heap_alloc_new _ _
  have k1' := (b3.block _ (by omega)).trans ((b2.block _ (by omega)).trans k1)
  have k2' := (b3.block _ (by omega)).trans k2
  have HBX := Aside0.mk (b1.trans ((b2.trans (b3.mono (by omega))).mono (by omega)))
  have HK1 := Aside0.mk k1'
  have HK2 := Aside0.mk k2'
  have q0 := blk_cell k3 0
  have q1 := blk_cell k3 1
  simp at q0 q1
  have HR0 := Aside0.mk q0
  have HR1 := Aside0.mk q1
  have p1 := blk_cell k1' 1
  have p2 := blk_cell k1' 2
  have p3 := blk_cell k1' 3
  simp at p1 p2 p3
  change Code.wp Tryd.prog _ _ _ (((W.alloc (.cells #[.int .i64 k, .string uri, .string id, .slice A l c] 36)).alloc (.cells #[.int .i64 0, .int .i32 0, .int .u32 0, .map none] 51)).alloc (.cells #[.pointer none, .pointer (some ⟨W.heap.size + 1, 0, none⟩)] 25))
  rw [← hX1, ← hX2, ← hX]
  have HSX := Aside0.mk (show W.heap.size < X.heap.size from blk_lt k1')
  clear hX1 hX2 hX s1 s2 b1 b2 b3 k1 k2 k3 k1' k2' q0 q1
  go_loopg [4] 2 (fun kq v4 w' => ∃ i : Nat, v4 = .int .i64 i ∧ i ≤ 2 ∧ Aside0 (kq = 2 - i) ∧ X = w')
  case atStart => exact ⟨0, rfl, by omega, ⟨rfl⟩, rfl⟩
  case round =>
    obtain ⟨i, rfl, hi, HK, rfl⟩ := hrel
    have hcs : i = 0 ∨ i = 1 ∨ i = 2 := by omega
    rcases hcs with rfl | rfl | rfl
    · have HNB := Aside0.mk (show Nob X none from .inl rfl)
      have e0 := HR0.out
      go_wp2_with (first | (go_at_call 10; refine (drop_nob none uri X HNB.out).mono ?_; rintro e w' ⟨rfl, rfl⟩) | (go_at_call 11; refine (get_nob none uri id X HNB.out).mono ?_; rintro e w' ⟨rfl, rfl⟩) | (go_at_call 12; refine (put_nob none uri _ X HNB.out).mono ?_; rintro e w' ⟨rfl, rfl⟩) | (go_at_call 13; refine (kept_nob none uri X HNB.out).mono ?_; rintro e w' ⟨rfl, rfl⟩))
      go_roundg (2 - (0 + 1))
      case measure => have := HK.out; omega
      case rel => exact ⟨0 + 1, by first | rfl | go_num, by omega, ⟨rfl⟩, rfl⟩
    · have HNB := Aside0.mk (show Nob X (some ⟨W.heap.size + 1, 0, none⟩) from .inr ⟨_, rfl, HK2.out⟩)
      have e0 := HR1.out
      go_wp2_with (first | (go_at_call 10; refine (drop_nob (some ⟨W.heap.size + 1, 0, none⟩) uri X HNB.out).mono ?_; rintro e w' ⟨rfl, rfl⟩) | (go_at_call 11; refine (get_nob (some ⟨W.heap.size + 1, 0, none⟩) uri id X HNB.out).mono ?_; rintro e w' ⟨rfl, rfl⟩) | (go_at_call 12; refine (put_nob (some ⟨W.heap.size + 1, 0, none⟩) uri _ X HNB.out).mono ?_; rintro e w' ⟨rfl, rfl⟩) | (go_at_call 13; refine (kept_nob (some ⟨W.heap.size + 1, 0, none⟩) uri X HNB.out).mono ?_; rintro e w' ⟨rfl, rfl⟩))
      go_roundg (2 - (1 + 1))
      case measure => have := HK.out; omega
      case rel => exact ⟨1 + 1, by first | rfl | go_num, by omega, ⟨rfl⟩, rfl⟩
    · go_upto_region 10 with (fail)
      have HS0 := Aside0.mk (show X.drew.cell? ⟨W.heap.size, 1, none⟩ = some (.string uri) from p1)
      clear p1 p2 p3
      refine wp_region_noPanic (plain_need [0, 1, 2, 3, 4] (fun W' => W'.cell? ⟨W.heap.size, 1, none⟩ = some (.string uri)) (by kernel_rfl) ?_)
      refine wpAnyN_take (i := 1) (v := ?_) rfl (by kernel_rfl) (by kernel_rfl) (by kernel_rfl) (by kernel_rfl) (fun _ _ _ h => h) (.inl ⟨by rfl, ?_⟩) HS0.out ?_
      rotate_left
      · (intro W' hW'; have s0 := hW'; go_simp; try rfl)
      simp only [Act.put, List.setIfInBounds_toArray, List.set_cons_zero, List.set_cons_succ]
      refine wpAnyN_take (i := 2) (v := ?_) rfl (by kernel_rfl) (by kernel_rfl) (by kernel_rfl) (by kernel_rfl) (fun _ _ _ h => h) (.inl ⟨by rfl, ?_⟩) HS0.out ?_
      rotate_left
      · (intro W' hW'; have s0 := hW'; go_simp; try rfl)
      simp only [Act.put, List.setIfInBounds_toArray, List.set_cons_zero, List.set_cons_succ]
      refine wpAnyN_one (i := 0) rfl (by kernel_rfl) (fun K hK => ?_)
      go_simp
      refine (new_calls X.drew).mono ?_
      rintro e w2 ⟨b, rfl, hci, hb2⟩
      have HCI := Aside0.mk hci
      have HB2 := Aside0.mk (HBX.out.trans (((show Below X.heap.size X X.drew from (Below.refl _ _).drew).trans hb2).mono HBX.out.size))
      have HS1 := Aside0.mk (show w2.cell? ⟨W.heap.size, 1, none⟩ = some (.string uri) from (hb2.cell (p := ⟨W.heap.size, 1, none⟩) HSX.out).trans HS0.out)
      have HSZ := Aside0.mk (show X.heap.size ≤ w2.heap.size from hb2.size)
      clear hci hb2
      refine hK.out _ _ (fun _ => HS1.out) (fun _ => ?_)
      clear hK K
      try simp only [Act.put, List.setIfInBounds_toArray, List.set_cons_zero, List.set_cons_succ]
      refine wpAnyN_one (i := 3) rfl (by kernel_rfl) (fun K hK => ?_)
      go_simp
      refine (put_calls _ b 0 (fun _ => []) w2 HCI.out uri HU.out none 0 [] (Nat.le_refl _) (F_nil _ _) (by simp) (by omega) (fun W' hk => tab_heap HT.out (fun q hq => (hk q (Nat.lt_of_lt_of_le hq HB2.out.size) (fun h => by have h1 : X.heap.size ≤ q := h.1; have := HBX.out.size; omega)).trans (HB2.out.block q hq)))).mono ?_
      rintro e w3 ⟨rfl, _, hch⟩
      have HB3 := Aside0.mk (show Below W.heap.size W w3 from ⟨hch.os.trans HB2.out.os, hch.tape.trans HB2.out.tape, hch.output.trans HB2.out.output, Nat.le_trans HB2.out.size hch.size, fun q hq => (hch.block q (Nat.lt_of_lt_of_le hq HB2.out.size) (fun h => by have h1 : X.heap.size ≤ q := h.1; have := HBX.out.size; omega)).trans (HB2.out.block q hq)⟩)
      have HS2 := Aside0.mk (show w3.cell? ⟨W.heap.size, 1, none⟩ = some (.string uri) from by
        have h := hch.block W.heap.size (by have := HSX.out; have := HSZ.out; omega) (fun h => by have h1 : X.heap.size ≤ W.heap.size := h.1; have := HSX.out; omega)
        have h2 := HS1.out
        simp only [World.cell?] at h2 ⊢
        rw [h]
        exact h2)
      clear hch
      have hd1 : dec ((0 : Nat) + 1 : Int) = ⟨#[49]⟩ := dec_one
      rw [hd1]
      clear hd1
      refine hK.out _ _ (fun _ => HS2.out) (fun _ => ?_)
      clear hK K
      try simp only [Act.put, List.setIfInBounds_toArray, List.set_cons_zero, List.set_cons_succ]
      refine wpAnyN_one (i := 4) rfl (by kernel_rfl) (fun K hK => ?_)
      go_simp
      refine hK.out _ _ (fun _ => HS2.out) (fun _ => ?_)
      clear hK K
      try simp only [Act.put, List.setIfInBounds_toArray, List.set_cons_zero, List.set_cons_succ]
      refine wpAnyN_one (i := 5) rfl (by kernel_rfl) (fun K hK => ?_)
      go_simp
      refine hK.out _ _ (fun h => Bool.noConfusion (show false = true from h)) (fun _ => ?_)
      clear hK K
      try simp only [Act.put, List.setIfInBounds_toArray, List.set_cons_zero, List.set_cons_succ]
      refine wpAnyN_done (by kernel_rfl) (NoPanic.normal ?_) _
      go_wp2
      go_ret
      exact ⟨rfl, HB3.out⟩
end Go.Proofs.YtaphacgdokhmmaaDoor.H
