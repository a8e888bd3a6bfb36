/- ClassifyTrees: the law walked. -/
import Derived.Test.YtobgkpnigjfhmaaDoorQHClassMarked
import Derived.Test.YtobgkpnigjfhmaaDoorQHxglossatorlaw15Grow
set_option linter.unusedVariables false
set_option linter.unusedSimpArgs false
namespace Go.Proofs.YtobgkpnigjfhmaaDoor.H
open Go.RowKit Go.Shelf Go.Proofs.YtobgkpnigjfhmaaDoorW.PrintWords Go.Proofs.YtobgkpnigjfhmaaDoorW.PrintLast Go.Proofs.YtobgkpnigjfhmaaDoorW.PrintMore
set_option maxHeartbeats 8000000 in
set_option maxRecDepth 100000 in
theorem trees_law (A0 : Option Addr) (c0 : Nat) (l0 : List S80) (s : ByteArray) (Ad : Option Addr) (cd : Nat) (ds : List S72) (Ab : Option Addr) (cb : Nat) (bs : List S43) (W : World) (hr0 : Kd.C k80 W A0 l0.length l0) (hc0 : l0.length ≤ c0) (hrow : ∀ r ∈ l0, rowOk r)
    (hd : Kd.C k72 W Ad ds.length ds) (hdc : ds.length ≤ cd) (hb : Kd.C k43 W Ab bs.length bs) (hbc : bs.length ≤ cb) (hdi : inDs ds) (hbi : inBs bs) (hn1 : ds.length ≤ 140737488351232) (hn2 : bs.length ≤ 140737488351232) (htab : ColTab W) :
    Calls Tryd.prog 3 #[.slice A0 l0.length c0, .string s, .agg #[.slice Ad ds.length cd, .slice Ab bs.length cb]] W fun e W' => e = .returned (.bool true) ∧ Below W.heap.size W W' := by
  obtain ⟨V1, hV1⟩ : ∃ V, V = W.alloc (.cells #[.slice Ad ds.length cd, .slice Ab bs.length cb] 26) := ⟨_, rfl⟩
  have e1 : Below W.heap.size W V1 := by rw [hV1]; exact below_alloc (Below.refl _ _) _
  have k1 : V1.heap[W.heap.size]? = some (.cells #[.slice Ad ds.length cd, .slice Ab bs.length cb] 26 (0, 0)) := by rw [hV1]; exact heap_alloc_new _ _
  have HBV := Aside0.mk e1
  have HK1 := Aside0.mk k1
  have HR := Aside0.mk hr0
  have HC := Aside0.mk hc0
  have HD := Aside0.mk hd
  have HDC := Aside0.mk hdc
  have HB := Aside0.mk hb
  have HBC := Aside0.mk hbc
  have HDI := Aside0.mk hdi
  have HBI := Aside0.mk hbi
  have HTAB := Aside0.mk htab
  have hu := Tryd.underlying29
  have hun := Tryd.underlying26
  have hg := Grow_ev l0 hrow
  clear hr0 hc0 hd hdc hb hbc hdi hbi htab k1 e1 hrow
  rcases hg with ⟨K, hK⟩ | ⟨t, ⟨K, hK⟩, hbt, hts⟩
  · have HG := Aside0.mk (hK K (Nat.le_refl _))
    clear hK
    go_enter Tryd.func3, Tryd.ntmps3
    go_upto_region 1 with (fail)
    change Code.wp Tryd.prog _ _ _ (W.alloc (.cells #[.slice Ad ds.length cd, .slice Ab bs.length cb] 26))
    rw [← hV1]
    clear hV1
    go_wp2_with (go_at_call 5; refine (glossatorlaw15_Grow.calls K A0 c0 l0 0 0 0 [] false V1 (Kd.C_below HR.out HBV.out) HC.out HG.out).mono ?_; rintro e w2 ⟨v, rfl, hRt, hb2⟩; obtain ⟨At, ct, rfl, hct, hCt⟩ := Kd.R_reads hRt; have HB2 := Aside0.mk hb2; clear hRt hb2 hCt hct)
    go_ret
    exact ⟨rfl, below_step HBV.out (below_step HB2.out (below_alloc (Below.refl _ _) _))⟩
  · have HG := Aside0.mk (hK K (Nat.le_refl _))
    obtain ⟨k, w1, wd, l⟩ := t
    have HBT := Aside0.mk hbt
    have HTS := Aside0.mk hts
    clear hK hbt hts
    simp only at HG
    go_enter Tryd.func3, Tryd.ntmps3
    go_upto_region 1 with (fail)
    change Code.wp Tryd.prog _ _ _ (W.alloc (.cells #[.slice Ad ds.length cd, .slice Ab bs.length cb] 26))
    rw [← hV1]
    clear hV1
    go_upto_region 2 with (go_at_call 5; refine (glossatorlaw15_Grow.calls K A0 c0 l0 k w1 wd l true V1 (Kd.C_below HR.out HBV.out) HC.out HG.out).mono ?_; rintro e w2 ⟨v, rfl, hRt, hb2⟩; obtain ⟨At, ct, rfl, hct, hCt⟩ := Kd.R_reads hRt; have HB2 := Aside0.mk hb2; have HCT := Aside0.mk hCt; have HLT := Aside0.mk hct; clear hRt hb2 hCt hct)
    obtain ⟨X, hX⟩ : ∃ V, V = w2.alloc (.cells #[.int .u8 k, .int .u8 w1, .int .i64 wd, .slice At l.length ct] 29) := ⟨_, rfl⟩
    have e3 : Below w2.heap.size w2 X := by rw [hX]; exact below_alloc (Below.refl _ _) _
    have k7 : X.heap[w2.heap.size]? = some (.cells #[.int .u8 k, .int .u8 w1, .int .i64 wd, .slice At l.length ct] 29 (0, 0)) := by rw [hX]; exact heap_alloc_new _ _
    have HBX := Aside0.mk (below_step HBV.out (below_step HB2.out e3))
    have HCX := Aside0.mk (Kd.C_below HCT.out e3)
    have k5 := blk_below HK1.out (below_step HB2.out e3)
    change Code.wp Tryd.prog _ _ _ (w2.alloc (.cells #[.int .u8 k, .int .u8 w1, .int .i64 wd, .slice At l.length ct] 29))
    rw [← hX]
    clear hX e3 HCT HB2
    have p0 := blk_cell k7 0
    have p1 := blk_cell k7 1
    have p2 := blk_cell k7 2
    have p3 := blk_cell k7 3
    have q0 := blk_cell k5 0
    have q1 := blk_cell k5 1
    simp at p0 p1 p2 p3 q0 q1
    clear k7 k5
    by_cases c1 : 1000 < l0.length
    · go_wp2
      go_ret
      exact ⟨rfl, HBX.out⟩
    by_cases c2 : 3000 < s.size
    · go_wp2
      go_ret
      exact ⟨rfl, HBX.out⟩
    by_cases c3 : 2000 < ds.length + bs.length
    · have c3' : (2000 : Int) < (ds.length : Int) + (bs.length : Int) := by omega
      go_wp2
      go_ret
      exact ⟨rfl, HBX.out⟩
    have c3' : ¬ (2000 : Int) < (ds.length : Int) + (bs.length : Int) := by omega
    have HN := Aside0.mk (show ds.length + bs.length ≤ 100000 by omega)
    go_wp2_with (go_at_call 6; refine (marked_calls s k w1 wd At ct l Ad cd ds Ab cb bs X HCX.out HLT.out (Kd.C_below HD.out HBX.out) HDC.out (Kd.C_below HB.out HBX.out) HBC.out HDI.out HBI.out HN.out (by have := HTS.out; omega) HBT.out (HTAB.out.below HBX.out)).mono ?_; rintro e w4 ⟨rfl, hb4⟩; have HB4 := Aside0.mk (below_step HBX.out hb4); clear hb4)
    go_ret
    exact ⟨rfl, HB4.out⟩
end Go.Proofs.YtobgkpnigjfhmaaDoor.H
