/- cache.Cache's Kept. -/
import Derived.Test.YtaphacgdokhmmaaDoorVHCacheGet
set_option linter.unusedVariables false
set_option linter.unusedSimpArgs false
namespace Go.Proofs.YtaphacgdokhmmaaDoor.H
open Go.RowKit Go.Proofs.YtaphacgdokhmmaaDoorW.PrintWords Go.Proofs.YtaphacgdokhmmaaDoorW.PrintLast Go.Proofs.YtaphacgdokhmmaaDoorW.PrintMore
open Go.MuLone
open Go.Maps (Keyed IsMap)
theorem info9 : (Tryd.prog.info? 9).map (fun i => (i.zero, i.size, i.bytes)) = some (some (.string ⟨#[]⟩), 1, 16) := by kernel_rfl
set_option maxHeartbeats 8000000 in
set_option maxRecDepth 100000 in
theorem kept_calls (Fp : Nat → Prop) (b n : Nat) (M : ByteArray → List Res) (W : World) (h : CI Fp W b n M) (u : ByteArray) (hu : u.size ≤ maxLen) :
    Calls Tryd.prog 13 #[.pointer (some ⟨b, 0, none⟩), .string u] W fun e W' => ∃ v, e = .returned v ∧ Kd.R Kd.string 9 W' W.heap.size (fun q => W.heap.size ≤ q) v ((M u).map (·.1)) ∧ Below W.heap.size W W' := by
  obtain ⟨bm, cnt, D, ow, hcnt, hx⟩ := h
  have HX := Aside0.mk hx
  have HU := Aside0.mk hu
  have h1 := hx.lock 1
  have HX1 := Aside0.mk h1
  have HLB := Aside0.mk (fun w9 => lock_below (w9 := w9) hx)
  have c1 := blk_cell hx.blk 1
  have f1 := blk_frozen hx.blk 1
  simp at c1
  have HC1 := Aside0.mk c1
  have HF1 := Aside0.mk f1
  clear hx h1 hu hcnt c1 f1
  go_enter_defers Tryd.func13, Tryd.ntmps13
  go_upto_region 5 with (first | (go_at_call 21; refine (none_calls b bm n 0 W HX.out.blk).mono ?_; rintro e w' ⟨rfl, rfl⟩) | (go_at_call 22; refine (lock_free muLib ⟨b, 1, none⟩ _ HC1.out HF1.out).mono ?_; rintro e w' ⟨rfl, rfl⟩))
  obtain ⟨W1, hW1⟩ : ∃ W1, W1 = W.setCell ⟨b, 1, none⟩ (.int .i32 1) := ⟨_, rfl⟩
  have HSZ := Aside0.mk (show W1.heap.size = W.heap.size by rw [hW1]; simp)
  rw [← hW1] at HX1 HLB
  change Code.wp Tryd.prog _ _ _ (W.setCell ⟨b, 1, none⟩ (.int .i32 1))
  rw [← hW1]
  clear hW1
  have hl := omap_look HX1.out.map klaw Tryd.underlying49 (Tryd.zeroValue65 W1) (keyS_of u HU.out)
  obtain ⟨A, c, hv, hlc, hC⟩ := Kd.N_reads (HX1.out.rows u HU.out)
  rw [hv] at hl
  have HCC := Aside0.mk hC
  have HLC := Aside0.mk hlc
  have c3 := blk_cell HX1.out.blk 3
  simp at c3
  obtain ⟨xs, hxs⟩ : ∃ xs, xs = M u := ⟨_, rfl⟩
  have H4 := Aside0.mk (HX.out.four u)
  rw [← hxs] at hl HCC HLC H4
  have HXS := Aside0.mk hxs
  clear hxs hC hlc hv
  go_upto_region 7 with (fail)
  clear hl c3
  go_loopg [5, 24] xs.length (fun kq v5 v24 w' => ∃ i : Nat, v24 = .int .i64 i ∧ i ≤ xs.length ∧ Aside0 (kq = xs.length - i) ∧ Aside0 (Below W1.heap.size W1 w') ∧ Aside0 (Kd.R Kd.string 9 w' W1.heap.size (fun q => W1.heap.size ≤ q) v5 ((xs.take i).map (·.1))))
  case atStart => exact ⟨0, rfl, Nat.zero_le _, ⟨rfl⟩, ⟨Below.refl _ _⟩, ⟨Kd.R_nil _ _ _ _ _⟩⟩
  case round =>
    obtain ⟨i, rfl, hi, HK, HB, HR⟩ := hrel
    have h4 := H4.out
    have hn4 : ((xs.take i).map (·.1)).length ≤ 4 := by simp; omega
    obtain ⟨acc, hacc⟩ : ∃ acc, acc = (xs.take i).map (·.1) := ⟨_, rfl⟩
    have HACC := Aside0.mk hacc
    rw [← hacc] at HR hn4
    clear hacc
    obtain ⟨Av, cv, rfl, _, _⟩ := Kd.R_reads HR.out
    by_cases hlt : i < xs.length
    · obtain ⟨ad, Ad, cd, e1, k0, k1, hld, hCd⟩ := at_res (Kd.C_below HCC.out HB.out) i hlt
      subst e1
      obtain ⟨x1, hx1⟩ : ∃ x, x = (xs.getD i default).1 := ⟨_, rfl⟩
      obtain ⟨x2, hx2⟩ : ∃ x, x = (xs.getD i default).2.length := ⟨_, rfl⟩
      have HTK := Aside0.mk (show (xs.take (i + 1)).map (·.1) = (xs.take i).map (·.1) ++ [x1] by
        rw [hx1, List.take_succ_eq_append_getElem hlt, List.map_append, List.getD_eq_getElem?_getD, List.getElem?_eq_getElem hlt]; rfl)
      rw [← hx1] at k0
      rw [← hx2] at k1
      clear hx1 hx2 hCd hld
      rw [← HACC.out] at HTK
      go_upto_region 9 with (fail)
      have hBa : Below wr.heap.size wr (wr.alloc (.cells #[.string x1, .slice Ad x2 cd] 67)) := below_alloc (Below.refl _ _) _
      have HBX := Aside0.mk (HB.out.trans (hBa.mono HB.out.size))
      have HRX := Aside0.mk (Kd.R_below HR.out hBa)
      have k2 := blk_cell (heap_alloc_new wr (.cells #[.string x1, .slice Ad x2 cd] 67)) 0
      simp at k2
      obtain ⟨X, hX⟩ : ∃ X, X = wr.alloc (.cells #[.string x1, .slice Ad x2 cd] 67) := ⟨_, rfl⟩
      rw [← hX] at HBX HRX
      have k3 : X.cell? ⟨wr.heap.size, 0, none⟩ = some (.string x1) := by rw [hX]; exact blk_cell (heap_alloc_new wr (.cells #[.string x1, .slice Ad x2 cd] 67)) 0
      change Code.wp Tryd.prog _ _ _ (wr.alloc (.cells #[.string x1, .slice Ad x2 cd] 67))
      rw [← hX]
      clear hX hBa k0 k1 k2
      go_wp2_with (first | ((with_reducible refine gate_dst (N := 31) rfl ?_); refine Kd.R_lit Kd.string W1.heap.size 9 ?hg (N := 31) ?hd (xs := [x1]) (inner := [.string x1]) (ok := fun _ => True) (okp := fun _ => False) ?hr ?hp (fun _ hk => hk.elim) trivial HBX.out HBX.out.size (by simp) ?_; (case hd => rfl); (case hg => rfl); (case hr => first | (go_simp; done) | (go_simp; rfl)); (case hp => exact Reps.one rfl (Reps.none _ _)); intro v8 w8 ho8 hb8 hg8 hnew8; obtain ⟨A8, c8, rfl, _, hC8⟩ := Kd.R_reads ho8; have HC8 := Aside0.mk hC8; have HB8 := Aside0.mk hb8; have HR8 := Aside0.mk (Kd.R_grown HRX.out hg8 (fun _ _ => by simp)); clear hg8 hnew8 ho8 hb8 hC8) | ((with_reducible refine gate_builtin (b := .append) (xs := #[.tmp 28, .tmp 31]) rfl ?_); at_builtin; refine Kd.R_append_rows Kd.string (w0 := W1) W1.heap.size rfl (.tmp 28) (.tmp 31) 56 9 (.string ⟨#[]⟩) 16 rfl Tryd.underlying56 info9 rfl (by decide) (by omega) (.slice Av acc.length cv) acc [x1] _ _ _ (fun q => W1.heap.size ≤ q) (fun _ => False) rfl rfl HR8.out HC8.out (fun _ _ h => h) (fun _ h => h.elim) (fun q hq => Nat.le_trans HB8.out.size hq) HB8.out HB8.out.size (by simp; omega) ?_; intro v9 w9 ho9 hb9 hg9 hat9; have HO9 := Aside0.mk ho9; have HB9 := Aside0.mk hb9; clear ho9 hb9 hg9 hat9))
      go_roundg (xs.length - (i + 1))
      case measure => have := HK.out; omega
      case rel => exact ⟨i + 1, by go_num, by omega, ⟨rfl⟩, HB9, ⟨by rw [HTK.out]; exact HO9.out⟩⟩
    · have hie : i = xs.length := by omega
      subst hie
      go_wp2_with fail
      have hb9 := blk_below HX1.out.blk HB.out
      have hc9 := blk_cell hb9 1
      simp at hc9
      have hfb := HLB.out wr HB.out
      have hbs : b < W.heap.size := blk_lt HX.out.blk
      refine leaves_cons (f := 23) (args := #[.pointer (some ⟨b, 1, none⟩)]) (by simp) (by simp [go_sem]) ?_
      refine (unlock_deferred muLib ⟨b, 1, none⟩ .returning _ hc9 (blk_frozen hb9 1)).mono ?_
      rintro e u' w'' ⟨rfl, rfl, rfl⟩
      refine ⟨_, results_tmp rfl _ _ _, .slice Av acc.length cv, ?_, ?_, hfb⟩
      · rfl
      · have h := HR.out
        rw [HSZ.out] at h
        rw [← HXS.out]
        have e : xs.map (·.1) = acc := by rw [HACC.out, List.take_length]
        rw [e]
        exact Kd.R_step h (fun q hq _ => Below.heap_setCell _ _ _ _ (show q ≠ b by omega))
end Go.Proofs.YtaphacgdokhmmaaDoor.H
