/- classify.Of: of what is no tree of the text, an error; both ways together. -/
import Derived.Test.YtobgkpnigjfhmaaDoorQHClassOf
set_option linter.unusedVariables false
set_option linter.unusedSimpArgs false
namespace Go.Proofs.YtobgkpnigjfhmaaDoor.H
open Go.RowKit Go.Shelf Go.Proofs.YtobgkpnigjfhmaaDoorW.PrintWords Go.Proofs.YtobgkpnigjfhmaaDoorW.PrintLast Go.Proofs.YtobgkpnigjfhmaaDoorW.PrintMore
attribute [local go_sem] Oper.semAt_some
set_option maxHeartbeats 8000000 in
set_option maxRecDepth 100000 in
theorem classOf_bad (s : ByteArray) (k w1 wd : Int) (A : Option Addr) (c : Nat) (kids : List AT) (x0 x1 : Value) (W : World) (hT : AtT W (.node k w1 wd A c kids))
    (hbad : ¬ (okB (AT.node k w1 wd A c kids).erase = true ∧ k = 51 ∧ wd = (s.size : Int))) :
    Calls Tryd.prog 13 #[.string s, .agg #[.int .u8 k, .int .u8 w1, .int .i64 wd, .slice A kids.length c], .agg #[x0, x1]] W fun e W' => e = .returned (.tuple #[.slice none 0 0, .int .i64 150]) ∧ Below W.heap.size W W' := by
  refine (callsIn_wide (n := 4)).1 ?_
  obtain ⟨V1, hV1⟩ : ∃ V, V = W.alloc (boxN k w1 wd A kids.length c) := ⟨_, rfl⟩
  obtain ⟨V2, hV2⟩ : ∃ V, V = V1.alloc (.cells #[x0, x1] 26) := ⟨_, rfl⟩
  have e1 : Below W.heap.size W V1 := by rw [hV1]; exact below_alloc (Below.refl _ _) _
  have e2 : Below V1.heap.size V1 V2 := by rw [hV2]; exact below_alloc (Below.refl _ _) _
  have k1 : V2.heap[W.heap.size]? = some (boxN k w1 wd A kids.length c) := blk_below (by rw [hV1]; exact heap_alloc_new _ _) e2
  have HBV := Aside0.mk (below_step e1 e2)
  have HT := Aside0.mk hT
  have HK1 := Aside0.mk k1
  have HE1 := Aside0.mk hV1
  have HE2 := Aside0.mk hV2
  have hu := Tryd.underlying29
  have hun := Tryd.underlying26
  clear hT k1 hV1 hV2 e1 e2
  refine callsIn_of_wp_marks Tryd.func13 rfl trivial ?_ rfl
  simp only [Tryd.ntmps13, List.size_toArray, List.length_cons, List.length_nil, Nat.reduceAdd, Nat.reduceSub, Array.replicate_succ, Array.replicate_zero, List.push_toArray, List.append_toArray, List.nil_append, List.cons_append]
  have HBAD := Aside0.mk hbad
  clear hbad
  gi_wp2
  refine ⟨trivial, ?_⟩
  change CallsIn Fence.wide 3 Tryd.prog 27 _ ((W.alloc (boxN k w1 wd A kids.length c)).alloc (.cells #[x0, x1] 26)) _
  rw [← HE1.out, ← HE2.out]
  refine (right_in 3 k w1 wd A c kids V2 (AtT.below HBV.out _ HT.out)).mono ?_
  rintro e V3 ⟨rfl, hb3⟩
  have HB3 := Aside0.mk (below_step HBV.out hb3)
  have k1 := blk_below HK1.out hb3
  have p0 := blk_cell k1 0
  have p2 := blk_cell k1 2
  simp at p0 p2
  have l1 := blk_lt k1
  clear k1 hb3
  cases hok : okB (AT.node k w1 wd A c kids).erase with
  | false =>
    clear hok
    gi_wp2
    refine ⟨_, results_tmp2 rfl _ _ _, rfl, HB3.out⟩
  | true =>
    have HOK := Aside0.mk hok
    clear hok
    by_cases h51 : k = 51
    · have d51 : (k != 51) = false := by simp [h51]
      have dw : (wd != (s.size : Int)) = true := by
        have h := HBAD.out
        simp only [bne_iff_ne, ne_eq]
        exact fun e => h ⟨HOK.out, h51, e⟩
      clear h51
      gi_wp2
      refine ⟨_, results_tmp2 rfl _ _ _, rfl, HB3.out⟩
    · have d51 : (k != 51) = true := by simp [h51]
      clear h51
      gi_wp2
      refine ⟨_, results_tmp2 rfl _ _ _, rfl, HB3.out⟩
end Go.Proofs.YtobgkpnigjfhmaaDoor.H
