/- CursorTrees: the law walked. -/
import Derived.Test.YtghbfjmmjfklfaaQHCursorAsks
import Derived.Test.YtghbfjmmjfklfaaQHxglossatorlaw15Grow
set_option linter.unusedVariables false
set_option linter.unusedSimpArgs false
namespace Go.Proofs.Ytghbfjmmjfklfaa.H
open Go.RowKit Go.Proofs.YtghbfjmmjfklfaaW.PrintWords Go.Proofs.YtghbfjmmjfklfaaW.PrintLast Go.Proofs.YtghbfjmmjfklfaaW.PrintMore
mutual
theorem sizeT_eq : ∀ T : AT, sizeT T = tsize T.erase
  | .node k w wd A c kids => by simp only [sizeT, AT.erase, tsize, sizeL_eq kids]
theorem sizeL_eq : ∀ l : List AT, sizeL l = lsize (eraseL l)
  | [] => rfl
  | T :: r => by simp only [sizeL, eraseL, lsize, sizeT_eq T, sizeL_eq r]
end
theorem wf_u8 {n : Int} (h : (Lit.int .u8 n).wf = true) : 0 ≤ n ∧ n ≤ 255 := bounds_u8 h
theorem wf_inI {n : Int} (h : (Lit.int .i64 n).wf = true) : inI n := bounds_i64 h
set_option maxHeartbeats 8000000 in
set_option maxRecDepth 100000 in
theorem trees_law (A0 : Option Addr) (c0 : Nat) (l0 : List S94) (Al : Option Addr) (cl : Nat) (l : List S39) (fi oe ne : Int) (Aq : Option Addr) (cq : Nat) (q : List AskS) (W : World) (hr0 : Kd.C k94 W A0 l0.length l0) (hc0 : l0.length ≤ c0) (hrow : ∀ r ∈ l0, rowOk r)
    (hr : Kd.C k39 W Al l.length l) (hc : l.length ≤ cl) (hk : ∀ t ∈ l, 0 ≤ t.f0) (hq : Kd.C kAsk W Aq q.length q) (hqc : q.length ≤ cq) (hqi : ∀ x ∈ q, (0 ≤ x.f0 ∧ x.f0 ≤ 255) ∧ inI x.f1) :
    Calls Try.prog 4 #[.slice A0 l0.length c0, .slice Al l.length cl, .int .i64 fi, .int .i64 oe, .int .i64 ne, .slice Aq q.length cq] W fun e W' => e = .returned (.bool true) ∧ Below W.heap.size W W' := by
  have HR0 := Aside0.mk hr0
  have HC0 := Aside0.mk hc0
  have HR := Aside0.mk hr
  have HC := Aside0.mk hc
  have HKK := Aside0.mk hk
  have HQ := Aside0.mk hq
  have HQC := Aside0.mk hqc
  have HQI := Aside0.mk hqi
  have hu := Try.underlying27
  have hg := Grow_ev l0 hrow
  clear hr0 hc0 hrow hr hc hk hq hqc hqi
  rcases hg with ⟨K, hK⟩ | ⟨t, ⟨K, hK⟩, hbt, hts⟩
  · have HG := Aside0.mk (hK K (Nat.le_refl _))
    clear hK
    go_enter Try.func4, Try.ntmps4
    go_wp2_with (go_at_call 8; refine (glossatorlaw15_Grow.calls K A0 c0 l0 0 0 0 [] false W HR0.out HC0.out HG.out).mono ?_; rintro e w2 ⟨v, rfl, hRt, hb2⟩; obtain ⟨At, ct, rfl, hct, hCt⟩ := Kd.R_reads hRt; have HB2 := Aside0.mk hb2; clear hRt hb2 hCt hct)
    go_ret
    exact ⟨rfl, below_step HB2.out (below_alloc (Below.refl _ _) _)⟩
  · have HG := Aside0.mk (hK K (Nat.le_refl _))
    obtain ⟨k, w1, wd, kl⟩ := t
    have HBT := Aside0.mk hbt
    have HTS := Aside0.mk hts
    clear hK hbt hts
    simp only at HG
    go_enter Try.func4, Try.ntmps4
    go_upto_region 2 with (go_at_call 8; refine (glossatorlaw15_Grow.calls K A0 c0 l0 k w1 wd kl true W HR0.out HC0.out HG.out).mono ?_; rintro e w2 ⟨v, rfl, hRt, hb2⟩; obtain ⟨At, ct, rfl, hct, hCt⟩ := Kd.R_reads hRt; have HB2 := Aside0.mk hb2; have HCT := Aside0.mk hCt; have HLT := Aside0.mk hct; clear hRt hb2 hCt hct)
    obtain ⟨X, hX⟩ : ∃ V, V = w2.alloc (.cells #[.int .u8 k, .int .u8 w1, .int .i64 wd, .slice At kl.length ct] 27) := ⟨_, rfl⟩
    have e3 : Below w2.heap.size w2 X := by rw [hX]; exact below_alloc (Below.refl _ _) _
    have k7 : X.heap[w2.heap.size]? = some (.cells #[.int .u8 k, .int .u8 w1, .int .i64 wd, .slice At kl.length ct] 27 (0, 0)) := by rw [hX]; exact heap_alloc_new _ _
    have HBX := Aside0.mk (below_step HB2.out e3)
    have HCX := Aside0.mk (Kd.C_below HCT.out e3)
    change Code.wp Try.prog _ _ _ (w2.alloc (.cells #[.int .u8 k, .int .u8 w1, .int .i64 wd, .slice At kl.length ct] 27))
    rw [← hX]
    clear hX e3 HCT HB2
    have p0 := blk_cell k7 0
    have p1 := blk_cell k7 1
    have p2 := blk_cell k7 2
    have p3 := blk_cell k7 3
    simp at p0 p1 p2 p3
    clear k7
    by_cases c1 : 200 < q.length
    · go_wp2
      go_ret
      exact ⟨rfl, HBX.out⟩
    by_cases c2 : 3000 < l.length
    · go_wp2
      go_ret
      exact ⟨rfl, HBX.out⟩
    obtain ⟨kids, hke, hAT⟩ := exists_AT X _ ⟨k, w1, wd, kl⟩ (Nat.lt_succ_self _) At ct HLT.out HCX.out
    simp only at hke hAT
    have hkl : kl.length = kids.length := by rw [← hke, eraseL_length]
    have hera : (AT.node k w1 wd At ct kids).erase = ⟨k, w1, wd, kl⟩ := by simp only [AT.erase, hke]
    have hcall := asks_calls X (.node k w1 wd At ct kids) hAT (by rw [hera]; exact HBT.out) (by rw [hera]; have := HTS.out; omega) (by rw [sizeT_eq, hera]; have := HTS.out; omega) Al cl l (Kd.C_below HR.out HBX.out) HC.out (by omega) HKK.out fi oe ne Aq cq q (Kd.C_below HQ.out HBX.out) HQC.out (by omega) HQI.out
    simp only [AT.val, AT.k, AT.w, AT.wd, AT.A, AT.c, AT.kids] at hcall
    rw [← hkl] at hcall
    clear hke hAT hkl hera
    go_wp2_with (go_at_call 7; refine hcall.mono ?_; rintro e w4 ⟨rfl, hb4⟩; have HB4 := Aside0.mk (below_step HBX.out hb4); clear hb4 hcall)
    go_ret
    exact ⟨rfl, HB4.out⟩
end Go.Proofs.Ytghbfjmmjfklfaa.H
