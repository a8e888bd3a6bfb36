/- cache.Cache's Get, Kept, Drop. -/
import Derived.Test.YtaphacgdokhmmaaDoorVHCache
set_option linter.unusedVariables false
set_option linter.unusedSimpArgs false
namespace Go.Proofs.YtaphacgdokhmmaaDoor.H
open Go.RowKit Go.Proofs.YtaphacgdokhmmaaDoorW.PrintWords Go.Proofs.YtaphacgdokhmmaaDoorW.PrintLast Go.Proofs.YtaphacgdokhmmaaDoorW.PrintMore
open Go.MuLone
open Go.Maps (Keyed IsMap)
def fnd (l : List Res) (id : ByteArray) : Option Res := l.find? (fun x => x.1.toList == id.toList)
theorem find_none_take {α : Type} (p : α → Bool) : ∀ (l : List α) (i : Nat), (∀ j, j < i → ∀ x, l[j]? = some x → p x = false) → l.find? p = (l.drop i).find? p
  | l, 0, _ => by simp
  | [], i + 1, _ => by simp
  | x :: r, i + 1, h => by
    have h0 := h 0 (by omega) x rfl
    rw [List.find?_cons, h0, List.drop_succ_cons]
    exact find_none_take p r i (fun j hj y hy => h (j + 1) (by omega) y (by simpa using hy))
set_option maxHeartbeats 8000000 in
set_option maxRecDepth 100000 in
theorem get_calls (Fp : Nat → Prop) (b n : Nat) (M : ByteArray → List Res) (W : World) (h : CI Fp W b n M) (u id : ByteArray) (hu : u.size ≤ maxLen) :
    Calls Tryd.prog 11 #[.pointer (some ⟨b, 0, none⟩), .string u, .string id] W fun e W' => ∃ v, e = .returned (.tuple #[v, .bool (fnd (M u) id).isSome]) ∧ Kd.R (Kd.int .i64) 3 W' W.heap.size (fun q => W.heap.size ≤ q) v ((fnd (M u) id).elim [] (·.2)) ∧ Below W.heap.size W W' := by
  obtain ⟨bm, cnt, D, ow, hcnt, hx⟩ := h
  have HX := Aside0.mk hx
  have HU := Aside0.mk hu
  have h1 := hx.lock 1
  have HX1 := Aside0.mk h1
  have HLB := Aside0.mk (fun w9 => lock_below (w9 := w9) hx)
  have c1 := blk_cell hx.blk 1
  have f1 := blk_frozen hx.blk 1
  simp at c1
  have HC1 := Aside0.mk c1
  have HF1 := Aside0.mk f1
  clear hx h1 hu hcnt c1 f1
  go_enter_defers Tryd.func11, Tryd.ntmps11
  go_upto_region 5 with (first | (go_at_call 21; refine (none_calls b bm n 0 W HX.out.blk).mono ?_; rintro e w' ⟨rfl, rfl⟩) | (go_at_call 22; refine (lock_free muLib ⟨b, 1, none⟩ _ HC1.out HF1.out).mono ?_; rintro e w' ⟨rfl, rfl⟩))
  obtain ⟨W1, hW1⟩ : ∃ W1, W1 = W.setCell ⟨b, 1, none⟩ (.int .i32 1) := ⟨_, rfl⟩
  have HSZ := Aside0.mk (show W1.heap.size = W.heap.size by rw [hW1]; simp)
  rw [← hW1] at HX1 HLB
  change Code.wp Tryd.prog _ _ _ (W.setCell ⟨b, 1, none⟩ (.int .i32 1))
  rw [← hW1]
  clear hW1
  have hl := omap_look HX1.out.map klaw Tryd.underlying49 (Tryd.zeroValue65 W1) (keyS_of u HU.out)
  obtain ⟨A, c, hv, hlc, hC⟩ := Kd.N_reads (HX1.out.rows u HU.out)
  rw [hv] at hl
  have HCC := Aside0.mk hC
  have HLC := Aside0.mk hlc
  have c3 := blk_cell HX1.out.blk 3
  simp at c3
  obtain ⟨xs, hxs⟩ : ∃ xs, xs = M u := ⟨_, rfl⟩
  have HD := Aside0.mk (HX.out.dat u)
  have H4 := Aside0.mk (HX.out.four u)
  rw [← hxs] at hl HCC HLC HD H4
  have HXS := Aside0.mk hxs
  clear hxs hC hlc hv
  go_upto_region 6 with (fail)
  clear hl c3
  go_loopg [26] xs.length (fun kq v26 w' => ∃ i : Nat, v26 = .int .i64 i ∧ i ≤ xs.length ∧ Aside0 (kq = xs.length - i) ∧ Aside0 (Below W1.heap.size W1 w') ∧ Aside0 (∀ j, j < i → ∀ x, xs[j]? = some x → (x.1.toList == id.toList) = false))
  case atStart => exact ⟨0, rfl, Nat.zero_le _, ⟨rfl⟩, ⟨Below.refl _ _⟩, ⟨fun j hj => absurd hj (Nat.not_lt_zero _)⟩⟩
  case round =>
    obtain ⟨i, rfl, hi, HK, HB, HN⟩ := hrel
    have h4 := H4.out
    by_cases hlt : i < xs.length
    · obtain ⟨ad, Ad, cd, e1, k0, k1, hld, hCd⟩ := at_res (Kd.C_below HCC.out HB.out) i hlt
      subst e1
      have hgx : xs[i]? = some (xs.getD i default) := by rw [List.getD_eq_getElem?_getD, List.getElem?_eq_getElem hlt]; rfl
      have HDX := Aside0.mk (HD.out _ (List.mem_of_getElem? hgx))
      obtain ⟨x, hx⟩ : ∃ x, x = xs.getD i default := ⟨_, rfl⟩
      rw [← hx] at k0 k1 hld hCd HDX hgx
      clear hx
      obtain ⟨x1, x2⟩ := x
      simp only at k0 k1 hld hCd HDX
      have HCD := Aside0.mk hCd
      have HLD := Aside0.mk hld
      have HGX := Aside0.mk hgx
      clear hCd hld hgx
      by_cases he : x1.toList = id.toList
      · have heq : (x1.toList == id.toList) = true := beq_iff_eq.mpr he
        have HEQ := Aside0.mk heq
        clear he
        go_wp2_with (go_at_call 24; refine (clone_calls Ad cd x2 _ (Kd.C_below HCD.out (below_alloc (Below.refl _ _) _)) HLD.out HDX.out).mono ?_; rintro e w9 ⟨v9, rfl, hR, hB9⟩; have HR := Aside0.mk hR; have HB9 := Aside0.mk hB9; clear hR hB9)
        have hBa : Below wr.heap.size wr (wr.alloc (.cells #[.string x1, .slice Ad x2.length cd] 67)) := below_alloc (Below.refl _ _) _
        have hB9 : Below W1.heap.size W1 w9 := HB.out.trans ((hBa.trans (HB9.out.mono hBa.size)).mono HB.out.size)
        have hb9 := blk_below HX1.out.blk hB9
        have hc9 := blk_cell hb9 1
        simp at hc9
        have hfb := HLB.out w9 hB9
        have hbs : b < W.heap.size := blk_lt HX.out.blk
        have hsz2 : W.heap.size ≤ (wr.alloc (.cells #[.string x1, .slice Ad x2.length cd] 67)).heap.size := by have := HSZ.out; have := HB.out.size; have := hBa.size; omega
        have hfd : fnd xs id = some (x1, x2) := by
          unfold fnd
          rw [find_none_take _ xs i HN.out, List.drop_eq_getElem_cons hlt]
          have : xs[i] = (x1, x2) := by have := HGX.out; rw [List.getElem?_eq_getElem hlt] at this; exact Option.some.inj this
          rw [this, List.find?_cons]
          simp only
          rw [HEQ.out]
        refine leaves_cons (f := 23) (args := #[.pointer (some ⟨b, 1, none⟩)]) (by simp) (by simp [go_sem]) ?_
        refine (unlock_deferred muLib ⟨b, 1, none⟩ .returning _ hc9 (blk_frozen hb9 1)).mono ?_
        rintro e u' w'' ⟨rfl, rfl, rfl⟩
        refine ⟨_, results_tmp2 rfl _ _ _, v9, ?_, ?_, hfb⟩
        · rw [← HXS.out, hfd]
          rfl
        · rw [← HXS.out, hfd]
          exact Kd.R_mono (Kd.R_lower (Kd.R_step HR.out (fun q hq _ => Below.heap_setCell _ _ _ _ (show q ≠ b by omega))) hsz2) (fun q hq => Nat.le_trans hsz2 hq)
      · have heq : (x1.toList == id.toList) = false := beq_eq_false_iff_ne.mpr he
        have HEQ := Aside0.mk heq
        clear he
        go_wp2
        go_roundg (xs.length - (i + 1))
        case measure => have := HK.out; omega
        case rel => exact ⟨i + 1, by go_num, by omega, ⟨rfl⟩, ⟨HB.out.trans ((below_alloc (Below.refl _ _) _).mono HB.out.size)⟩, ⟨fun j hj x hx => by
          by_cases e : j = i
          · subst e; rw [HGX.out] at hx; injection hx with hx; subst hx; exact HEQ.out
          · exact HN.out j (by omega) x hx⟩⟩
    · have hie : i = xs.length := by omega
      subst hie
      go_wp2_with fail
      have hb9 := blk_below HX1.out.blk HB.out
      have hc9 := blk_cell hb9 1
      simp at hc9
      have hfb := HLB.out wr HB.out
      have hfd : fnd xs id = none := by
        unfold fnd
        rw [find_none_take _ xs xs.length HN.out, List.drop_length]
        rfl
      refine leaves_cons (f := 23) (args := #[.pointer (some ⟨b, 1, none⟩)]) (by simp) (by simp [go_sem]) ?_
      refine (unlock_deferred muLib ⟨b, 1, none⟩ .returning _ hc9 (blk_frozen hb9 1)).mono ?_
      rintro e u' w'' ⟨rfl, rfl, rfl⟩
      refine ⟨_, results_tmp2 rfl _ _ _, nilS, ?_, ?_, hfb⟩
      · rw [← HXS.out, hfd]
        rfl
      · rw [← HXS.out, hfd]
        exact Kd.R_nil _ _ _ _ _
theorem turned_keep {W W' : World} {bm : Nat} (h : W.mapTurned W' bm) : ∀ q, q ≠ bm → W'.heap[q]? = W.heap[q]? := by
  obtain ⟨es, clock, es', clock', hb, rfl⟩ := h
  intro q hq
  exact Go.ChangeMaps.heap_setBlock_other hb _ hq
theorem turned_same {W W' : World} {bm : Nat} (h : W.mapTurned W' bm) : W'.os = W.os ∧ W'.tape = W.tape ∧ W'.output = W.output ∧ W'.heap.size = W.heap.size := by
  obtain ⟨es, clock, es', clock', hb, rfl⟩ := h
  exact ⟨rfl, rfl, rfl, by simp [ChangeMaps.setBlock]⟩
structure Chg (Fp : Nat → Prop) (W W' : World) : Prop where
  os : W'.os = W.os
  tape : W'.tape = W.tape
  output : W'.output = W.output
  size : W.heap.size ≤ W'.heap.size
  block : ∀ q, q < W.heap.size → ¬ Fp q → W'.heap[q]? = W.heap[q]?
def dropM (M : ByteArray → List Res) (u : ByteArray) : ByteArray → List Res := fun x => if x = u then [] else M x
set_option maxHeartbeats 8000000 in
set_option maxRecDepth 100000 in
theorem drop_calls (Fp : Nat → Prop) (b n : Nat) (M : ByteArray → List Res) (W : World) (h : CI Fp W b n M) (u : ByteArray) (hu : u.size ≤ maxLen) :
    Calls Tryd.prog 10 #[.pointer (some ⟨b, 0, none⟩), .string u] W fun e W' => e = .returned (.tuple #[]) ∧ CI Fp W' b n (dropM M u) ∧ Chg Fp W W' ∧ W'.heap.size = W.heap.size := by
  obtain ⟨bm, cnt, D, ow, hcnt, hx⟩ := h
  have HX := Aside0.mk hx
  have HU := Aside0.mk hu
  have HCNT := Aside0.mk hcnt
  have h1 := hx.lock 1
  have HX1 := Aside0.mk h1
  have c1 := blk_cell hx.blk 1
  have f1 := blk_frozen hx.blk 1
  simp at c1
  have HC1 := Aside0.mk c1
  have HF1 := Aside0.mk f1
  clear hx h1 hu hcnt c1 f1
  go_enter_defers Tryd.func10, Tryd.ntmps10
  go_upto_region 3 with (first | (go_at_call 21; refine (none_calls b bm n 0 W HX.out.blk).mono ?_; rintro e w' ⟨rfl, rfl⟩) | (go_at_call 22; refine (lock_free muLib ⟨b, 1, none⟩ _ HC1.out HF1.out).mono ?_; rintro e w' ⟨rfl, rfl⟩))
  obtain ⟨W1, hW1⟩ : ∃ W1, W1 = W.setCell ⟨b, 1, none⟩ (.int .i32 1) := ⟨_, rfl⟩
  have HSZ := Aside0.mk (show W1.heap.size = W.heap.size by rw [hW1]; simp)
  have HW1 := Aside0.mk (show W1.os = W.os ∧ W1.tape = W.tape ∧ W1.output = W.output ∧ ∀ q, q ≠ b → W1.heap[q]? = W.heap[q]? by rw [hW1]; exact ⟨by simp [World.setCell], by simp [World.setCell], by simp [World.setCell], fun q hq => Below.heap_setCell _ _ _ _ hq⟩)
  rw [← hW1] at HX1
  change Code.wp Tryd.prog _ _ _ (W.setCell ⟨b, 1, none⟩ (.int .i32 1))
  rw [← hW1]
  clear hW1
  have c3 := blk_cell HX1.out.blk 3
  simp at c3
  obtain ⟨W2, hrun, hown, hturn⟩ := omap_delete HX1.out.map klaw Tryd.underlying49 (keyS_of u HU.out) 0
  have HOWN := Aside0.mk hown
  have HT := Aside0.mk hturn
  clear hown hturn
  go_wp2_with fail
  have hk := turned_keep HT.out
  obtain ⟨t1, t2, t3, t4⟩ := turned_same HT.out
  obtain ⟨o1, o2, o3, o4⟩ := HW1.out
  have hx1 := HX1.out
  have hb9 := (hk b (Ne.symm hx1.ne)).trans hx1.blk
  have hc9 := blk_cell hb9 1
  simp at hc9
  have hx2 : CIx Fp W2 b bm cnt n 1 (D.del (keyS u)) ow (dropM M u) := by
    refine ⟨hb9, hx1.fb, hx1.fm, hx1.ne, hx1.ob, hx1.om, HOWN.out, hx1.fo, fun v hv => ?_, fun v => ?_, fun v => ?_⟩
    · unfold dropM
      by_cases e : v = u
      · subst e
        rw [if_pos rfl, mval_del_same]
        exact Kd.N_nil _ _ _ _ _
      · rw [if_neg e, mval_del_other (fun h => e (keyS_inj h))]
        exact Kd.N_step (hx1.rows v hv) (fun q hq _ => hk q (fun h => by rw [h, hx1.om] at hq; cases hq))
    · unfold dropM
      split
      · simp
      · exact hx1.four v
    · unfold dropM
      split
      · simp
      · exact hx1.dat v
  refine leaves_cons (f := 23) (args := #[.pointer (some ⟨b, 1, none⟩)]) (by simp) (by simp [go_sem]) ?_
  refine (unlock_deferred muLib ⟨b, 1, none⟩ .returning _ hc9 (blk_frozen hb9 1)).mono ?_
  rintro e u' w'' ⟨rfl, rfl, rfl⟩
  refine ⟨_, results_none rfl _ _ _, rfl, ⟨bm, cnt, _, ow, HCNT.out, hx2.lock 0⟩, ⟨by simp [World.setCell, t1, o1], by simp [World.setCell, t2, o2], by simp [World.setCell, t3, o3], by simp [t4, HSZ.out], fun q hq hf => ?_⟩, by simp [t4, HSZ.out]⟩
  rw [Below.heap_setCell _ _ _ _ (show q ≠ b from fun e => hf (e ▸ hx1.fb)), hk q (fun e => hf (e ▸ hx1.fm)), o4 q (fun e => hf (e ▸ hx1.fb))]
end Go.Proofs.YtaphacgdokhmmaaDoor.H
