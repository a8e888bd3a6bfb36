import Derived.Test.YtcfeijdcanpflaaQHTreeWalk
import Derived.Test.YtcfeijdcanpflaaQHRound
import Derived.Test.YtcfeijdcanpflaaQHLeavesC
import Derived.Test.YtcfeijdcanpflaaQHxtreeFits
import Derived.Test.YtcfeijdcanpflaaQHxglossatorref15Fits
import Derived.Test.YtcfeijdcanpflaaQHxglossatorref15Same
import Derived.Test.YtcfeijdcanpflaaQHxglossatorref15Twin
import Derived.Test.YtcfeijdcanpflaaQHxglossatorlaw15Grow
set_option linter.unusedVariables false
set_option linter.unusedSimpArgs false
namespace Go.Proofs.Ytcfeijdcanpflaa.H
open Go.RowKit Go.Shelf Go.Proofs.YtcfeijdcanpflaaW.PrintWords Go.Proofs.YtcfeijdcanpflaaW.PrintLast Go.Proofs.YtcfeijdcanpflaaW.PrintMore
attribute [local go_sem] Oper.semAt_some
theorem at_SeenF {w : World} {ok : Nat → Prop} {A : Option Addr} {n : Nat} {xs : List S45} (h : Kd.F k45 w ok A n xs) (i : Nat) (h1 : i < n) (x : S45) (hx : xs[i]? = some x) :
    ∃ ad A3 c3, A = some ad ∧ (w.cell? (ad.add (i * 7)) = some (.int .u8 x.f0.f0) ∧ w.cell? ⟨(ad.add (i * 7)).block, (ad.add (i * 7)).off + 1, none⟩ = some (.int .u8 x.f0.f1) ∧ w.cell? ⟨(ad.add (i * 7)).block, (ad.add (i * 7)).off + 2, none⟩ = some (.int .i64 x.f0.f2) ∧
      w.cell? ⟨(ad.add (i * 7)).block, (ad.add (i * 7)).off + 3, none⟩ = some (.slice A3 x.f0.f3.length c3) ∧ w.cell? ⟨(ad.add (i * 7)).block, (ad.add (i * 7)).off + 4, none⟩ = some (.int .i64 x.f1.f0) ∧ w.cell? ⟨(ad.add (i * 7)).block, (ad.add (i * 7)).off + 5, none⟩ = some (.int .i64 x.f1.f1)) ∧ x.f0.f3.length ≤ c3 ∧ Kd.F k26 w ok A3 x.f0.f3.length x.f0.f3 := by
  obtain ⟨ad, cs, he, _, hK, hc0, _⟩ := Kd.F_get h z45 (i : Int) (by omega) (by omega)
  rw [Int.toNat_natCast, List.getD_eq_getElem?_getD, hx] at hK
  have hc : ∀ j u, cs[j]? = some u → w.cell? (ad.add (i * 7 + j)) = some u := hc0
  obtain ⟨A3, c3, rfl, l3, g3⟩ := k45_openF hK
  refine ⟨ad, A3, c3, he, ⟨hc 0 _ rfl, ?_, ?_, ?_, ?_, ?_⟩, l3, g3⟩
  · rw [← add_field _ _ 1 (by omega)]; exact hc 1 _ rfl
  · rw [← add_field _ _ 2 (by omega)]; exact hc 2 _ rfl
  · rw [← add_field _ _ 3 (by omega)]; exact hc 3 _ rfl
  · rw [← add_field _ _ 4 (by omega)]; exact hc 4 _ rfl
  · rw [← add_field _ _ 5 (by omega)]; exact hc 5 _ rfl
theorem blk_below_any {W W1 : World} {g : Nat} {o : Obj} (hg : W.heap[g]? = some o) (h : Below W.heap.size W W1) : W1.heap[g]? = some o := (h.block g (Array.getElem?_eq_some_iff.1 hg).1).trans hg
theorem Kp.set {n0 B : Nat} (W : World) {p : Addr} (hn : n0 ≤ p.block) (hB : p.block < B) (v : Value) : Kp n0 B [] W (W.setCell p v) :=
  ⟨(Below.refl _ _).setCell hn _, fun k cs t fz hk _ hc => (Below.heap_setCell _ _ _ _ (by omega)).trans hc, fun k hf => (by obtain ⟨_, hb, _⟩ := hf; cases hb), fun k o hk _ ho => (Below.heap_setCell _ _ _ _ (by omega)).trans ho⟩
theorem keeps_set {B : Nat} {W W1 : World} (h : Below W.heap.size W W1) {p : Addr} (hp : p.block < B) (v : Value) : KeepsFrom B W (W1.setCell p v) :=
  ⟨by simpa using h.size, fun k o hk ho _ => ((Below.heap_setCell _ _ _ _ (by omega)).trans (h.block k (Array.getElem?_eq_some_iff.1 ho).1)).trans ho⟩
theorem blk_low {W W1 : World} {g : Nat} {o : Obj} (h : Below W.heap.size W W1) (hg : W.heap[g]? = some o) : W1.heap[g]? = some o := (h.block g (Array.getElem?_eq_some_iff.1 hg).1).trans hg
section
variable (k : Nat) (A0 : Option Addr) (c0 : Nat) (l0 : List S62) (A1 : Option Addr) (c1 : Nat) (l1 : List S60) (stop : Int) (w : World)
  (hr0 : Kd.C k62 w A0 l0.length l0) (hc0 : l0.length ≤ c0) (hr1 : Kd.C k60 w A1 l1.length l1) (hc1 : l1.length ≤ c1)
include hr0 hc0 in
set_option maxHeartbeats 1000000 in
set_option maxRecDepth 100000 in
theorem walks_no (r1 r2 r3 : Int) (r4 : List S26) (hG : glossatorlaw15_Grow.f k l0 = some (r1, r2, r3, r4, false)) :
    Calls Try.prog 4 #[.slice A0 l0.length c0, .slice A1 l1.length c1, .int .i64 stop] w fun e w' => e = .returned (.bool true) ∧ Below w.heap.size w w' := by
  have HR0 := Aside0.mk hr0
  have HC0 := Aside0.mk hc0
  have HG := Aside0.mk hG
  clear hr0 hc0 hG
  obtain ⟨W1, hW1⟩ : ∃ W1, W1 = (w.alloc (.cells #[.int .i64 stop] 3)).alloc (.cells #[.bool false] 4) := ⟨_, rfl⟩
  have HB1 := Aside0.mk (show Below w.heap.size w W1 by rw [hW1]; exact Below.alloc (below_alloc (Below.refl _ _) _) (by simp) _)
  have h6 : W1.heap[w.heap.size + 1]? = some (.cells #[.bool false] 4 (0, 0)) := by
    rw [hW1]
    have := heap_alloc_new (w.alloc (.cells #[.int .i64 stop] 3)) (.cells #[.bool false] 4)
    simpa using this
  have H6 := Aside0.mk h6
  have hu := Try.underlying26
  clear h6
  go_enter Try.func4, Try.ntmps4
  go_upto_region 1 with (fail)
  rw [← hW1]
  clear hW1
  go_wp2_with (go_at_call 5; refine (glossatorlaw15_Grow.calls k _ _ _ r1 r2 r3 r4 false _ (Kd.C_below HR0.out HB1.out) HC0.out HG.out).mono ?_; rintro e w2 ⟨v2, rfl, hr2, hb2⟩; obtain ⟨A2, c2, e2⟩ := Kd.R_slice hr2; subst e2; clear hr2; have HB2 := Aside0.mk (below_step HB1.out hb2); have H62 := Aside0.mk (blk_below H6.out hb2); have hk6 := blk_cell H62.out 0; have hf6 := blk_frozen H62.out 0; have hl6 := blk_lt H62.out; simp at hk6; clear hb2)
  refine bodyPost_ret (v := .bool true) ?_ rfl ⟨rfl, ?_⟩
  · simp [results, Try.results4, go_sem, hk6, hl6]
  · exact Below.alloc (HB2.out.setCell (by simp) _) (by simp; exact HB2.out.size) _
include hr0 hc0 hr1 hc1 in
set_option maxHeartbeats 4000000 in
set_option maxRecDepth 100000 in
theorem walks_yes (t : S26) (b : Bool) (hG : glossatorlaw15_Grow.f k l0 = some (t.f0, t.f1, t.f2, t.f3, true)) (hT : glossatorref15_Twin.f k t.f0 t.f1 t.f2 t.f3 = some (t.f0, t.f1, t.f2, t.f3))
    (hA : glossatorref15_All.f k t.f0 t.f1 t.f2 t.f3 = some ((allT t).map seenS)) (hsz : tsize t ≤ 3000)
    (hS : ∀ x ∈ allT t, glossatorref15_Same.f k x.1.f0 x.1.f1 x.1.f2 x.1.f3 x.1.f0 x.1.f1 x.1.f2 x.1.f3 = some true)
    (hL : tree_Leaves.f t.f0 t.f1 t.f2 t.f3 = some (leavesS (allT t))) (hL2 : glossatorref15_Leaves.f k t.f0 t.f1 t.f2 t.f3 = some (leavesS (allT t)))
    (hSl : ∀ x ∈ leavesS (allT t), glossatorref15_Same.f k x.f0 x.f1 x.f2 x.f3 x.f0 x.f1 x.f2 x.f3 = some true)
    (hF : tree_Fits.f k t.f0 t.f1 t.f2 t.f3 l1 = some b) (hF2 : glossatorref15_Fits.f k t.f0 t.f1 t.f2 t.f3 l1 = some b)
    (hSt : glossatorref15_Same.f k t.f0 t.f1 t.f2 t.f3 t.f0 t.f1 t.f2 t.f3 = some true) :
    Calls Try.prog 4 #[.slice A0 l0.length c0, .slice A1 l1.length c1, .int .i64 stop] w fun e w' => e = .returned (.bool true) ∧ Below w.heap.size w w' := by
  have HR0 := Aside0.mk hr0
  have HC0 := Aside0.mk hc0
  have HR1 := Aside0.mk hr1
  have HC1 := Aside0.mk hc1
  have HG := Aside0.mk hG
  have HT := Aside0.mk hT
  have HA := Aside0.mk hA
  have HSZ := Aside0.mk hsz
  have HS := Aside0.mk hS
  have HL := Aside0.mk hL
  have HL2 := Aside0.mk hL2
  have HSL := Aside0.mk hSl
  have HF := Aside0.mk hF
  have HF2 := Aside0.mk hF2
  have HST := Aside0.mk hSt
  clear hr0 hc0 hr1 hc1 hG hT hA hsz hS hL hL2 hSl hF hF2 hSt
  obtain ⟨tk, tw, twd, tl⟩ := t
  simp only at HG HT HA HL HL2 HF HF2 HST
  obtain ⟨W1, hW1⟩ : ∃ W1, W1 = (w.alloc (.cells #[.int .i64 stop] 3)).alloc (.cells #[.bool false] 4) := ⟨_, rfl⟩
  have HB1 := Aside0.mk (show Below w.heap.size w W1 by rw [hW1]; exact Below.alloc (below_alloc (Below.refl _ _) _) (by simp) _)
  have h6 : W1.heap[w.heap.size + 1]? = some (.cells #[.bool false] 4 (0, 0)) := by
    rw [hW1]
    have := heap_alloc_new (w.alloc (.cells #[.int .i64 stop] 3)) (.cells #[.bool false] 4)
    simpa using this
  have h5 : W1.heap[w.heap.size]? = some (.cells #[.int .i64 stop] 3 (0, 0)) := by
    rw [hW1, Below.heap_alloc _ _ _ (by simp)]
    exact heap_alloc_new w _
  have H6 := Aside0.mk h6
  have H5 := Aside0.mk h5
  have hu := Try.underlying26
  clear h6 h5
  refine (callsIn_wide (n := 3)).1 ?_
  refine callsIn_of_wp_marks Try.func4 rfl trivial ?_ rfl
  simp only [Try.ntmps4, List.size_toArray, List.length_cons, List.length_nil, Nat.reduceAdd, Nat.reduceSub, Array.replicate_succ, Array.replicate_zero, List.push_toArray, List.append_toArray, List.nil_append, List.cons_append]
  gi_wp2
  refine ⟨trivial, ?_⟩
  change CallsIn Fence.wide 2 Try.prog 5 _ ((w.alloc (.cells #[.int .i64 stop] 3)).alloc (.cells #[.bool false] 4)) _
  rw [← hW1]
  refine (callsIn_wide.2 (glossatorlaw15_Grow.calls k _ _ _ tk tw twd tl true _ (Kd.C_below HR0.out HB1.out) HC0.out HG.out)).mono ?_
  rintro e w2 ⟨v2, rfl, hr2, hb2⟩
  obtain ⟨A2, c2, e2⟩ := Kd.R_slice hr2
  subst e2
  obtain ⟨_, hc2, hC2⟩ := Kd.R_reads' hr2
  -- the variable x
  obtain ⟨W3, hW3⟩ : ∃ W3, W3 = w2.alloc (boxN tk tw twd A2 tl.length c2) := ⟨_, rfl⟩
  have hb3 : Below w2.heap.size w2 W3 := by rw [hW3]; exact below_alloc (Below.refl _ _) _
  have h7 : W3.heap[w2.heap.size]? = some (boxN tk tw twd A2 tl.length c2) := by rw [hW3]; exact heap_alloc_new _ _
  have HB3 := Aside0.mk (below_step (below_step HB1.out hb2) hb3)
  have HX5 := Aside0.mk (blk_below (blk_below H5.out hb2) hb3)
  have HX6 := Aside0.mk (blk_below (blk_below H6.out hb2) hb3)
  have HX7 := Aside0.mk h7
  have HC2 := Aside0.mk hc2
  have HXC := Aside0.mk (Kd.C_below hC2 hb3)
  have HW3 := Aside0.mk hW3
  have hk0 := blk_cell h7 0
  have hk1 := blk_cell h7 1
  have hk2 := blk_cell h7 2
  have hk3 := blk_cell h7 3
  have hl7 := blk_lt h7
  simp at hk0 hk1 hk2 hk3
  clear hb2 hr2 hc2 hC2 hb3 h7 hW3 HB1 H5 H6 hW1
  gi_wp2
  refine ⟨trivial, ?_⟩
  change CallsIn Fence.wide 2 Try.prog 6 _ (w2.alloc (boxN tk tw twd A2 tl.length c2)) _
  rw [← HW3.out]
  refine (callsIn_wide.2 (glossatorref15_Twin.calls k _ _ _ _ _ tl _ _ _ _ W3 HXC.out HC2.out HT.out)).mono ?_
  rintro e w4 ⟨v4, rfl, hr4, hb4⟩
  obtain ⟨A4, c4, e4⟩ := Kd.R_slice hr4
  subst e4
  obtain ⟨_, hc4, hC4⟩ := Kd.R_reads' hr4
  -- the variable t
  obtain ⟨W5, hW5⟩ : ∃ W5, W5 = w4.alloc (boxN tk tw twd A4 tl.length c4) := ⟨_, rfl⟩
  have hb5 : Below w4.heap.size w4 W5 := by rw [hW5]; exact below_alloc (Below.refl _ _) _
  have h9 : W5.heap[w4.heap.size]? = some (boxN tk tw twd A4 tl.length c4) := by rw [hW5]; exact heap_alloc_new _ _
  have hb45 := below_step hb4 hb5
  have HB5 := Aside0.mk (below_step HB3.out hb45)
  have HY5 := Aside0.mk (blk_below HX5.out hb45)
  have HY6 := Aside0.mk (blk_below HX6.out hb45)
  have h7 := blk_below HX7.out hb45
  have HY7 := Aside0.mk h7
  have HY9 := Aside0.mk h9
  have HC4 := Aside0.mk hc4
  have HYC := Aside0.mk (Kd.C_below HXC.out hb45)
  have HYT := Aside0.mk (Kd.C_below hC4 hb5)
  have HW5 := Aside0.mk hW5
  clear hk0 hk1 hk2 hk3 hl7
  have h7w := blk_below HX7.out hb4
  have hk0 := blk_cell h7w 0
  have hk1 := blk_cell h7w 1
  have hk2 := blk_cell h7w 2
  have hk3 := blk_cell h7w 3
  have hl7 := blk_lt h7w
  simp at hk0 hk1 hk2 hk3
  clear h7w hb4 hr4 hc4 hC4 hb5 h9 h7 hW5 hb45 HB3 HX5 HX6 HX7 HXC HW3
  gi_wp2
  refine ⟨trivial, ?_⟩
  change CallsIn Fence.wide 2 Try.prog 13 _ (w4.alloc (boxN tk tw twd A4 tl.length c4)) _
  rw [← HW5.out]
  refine (callsIn_wide.2 (glossatorref15_All.calls k _ _ _ (fun q => q < W5.heap.size) _ _ tl _ W5 ⟨A2, c2, rfl, HC2.out, Kd.F_mono (Kd.C_F heap26 HYC.out) (fun q hq => hq)⟩ HA.out)).mono ?_
  rintro e w6 ⟨v6, rfl, hr6, hb6⟩
  obtain ⟨A6, c6, e6, hc6, hF6⟩ := hr6
  subst e6
  obtain ⟨al, hal⟩ : ∃ al, al = (allT ⟨tk, tw, twd, tl⟩).map seenS := ⟨_, rfl⟩
  rw [← hal] at hc6 hF6 ⊢
  have HAL := Aside0.mk hal
  -- the variables all, turn; the walk's own node
  obtain ⟨W7, hW7⟩ : ∃ W7, W7 = w6.alloc (.cells #[.slice A6 al.length c6] 39) := ⟨_, rfl⟩
  have hb7 : Below w6.heap.size w6 W7 := by rw [hW7]; exact below_alloc (Below.refl _ _) _
  have hb67 := below_step hb6 hb7
  have h10 : W7.heap[w6.heap.size]? = some (.cells #[.slice A6 al.length c6] 39 (0, 0)) := by rw [hW7]; exact heap_alloc_new _ _
  have h9 := blk_below HY9.out hb67
  have HB7 := Aside0.mk (below_step HB5.out hb67)
  have HZ5 := Aside0.mk (blk_below HY5.out hb67)
  have HZ6 := Aside0.mk (blk_below HY6.out hb67)
  have HZ7 := Aside0.mk (blk_below HY7.out hb67)
  have HZ9 := Aside0.mk h9
  have HZ10 := Aside0.mk h10
  have HC6 := Aside0.mk hc6
  have HZC := Aside0.mk (Kd.C_below HYC.out hb67)
  have HZT := Aside0.mk (Kd.C_below HYT.out hb67)
  have HZA := Aside0.mk (Kd.F_bound (Kd.F_below hF6 hb7))
  have HW7 := Aside0.mk hW7
  clear hk0 hk1 hk2 hk3 hl7
  have h9w := blk_below HY9.out hb6
  have hk0 := blk_cell h9w 0
  have hk1 := blk_cell h9w 1
  have hk2 := blk_cell h9w 2
  have hk3 := blk_cell h9w 3
  have hl9 := blk_lt h9w
  simp at hk0 hk1 hk2 hk3
  clear h9w hb6 hF6 hc6 hal hb7 hb67 h10 h9 hW7 HB5 HY5 HY6 HY7 HY9 HYC HYT HW5
  gi_wp2
  refine ⟨trivial, ?_⟩
  change CallsIn Fence.wide 2 Try.prog 14 _ (w6.alloc (.cells #[.slice A6 al.length c6] 39)) _
  rw [← HW7.out]
  refine (walkF_in _ _ _ _ _ _ _ _).mono ?_
  rintro e w8 ⟨rfl, hw8⟩
  -- the walk's own node, the variable turn
  have hb8 : Below W7.heap.size W7 w8 := by rw [hw8]; exact below_alloc (Below.refl _ _) _
  have h8 : w8.heap[W7.heap.size]? = some (boxN tk tw twd A4 tl.length c4) := by rw [hw8]; exact heap_alloc_new _ _
  have hz8 : w8.heap.size = W7.heap.size + 1 := by rw [hw8]; simp
  obtain ⟨W9, hW9⟩ : ∃ W9, W9 = w8.alloc (.cells #[.int .i64 0] 3) := ⟨_, rfl⟩
  have hb9 : Below w8.heap.size w8 W9 := by rw [hW9]; exact below_alloc (Below.refl _ _) _
  have h12 : W9.heap[w8.heap.size]? = some (.cells #[.int .i64 0] 3 (0, 0)) := by rw [hW9]; exact heap_alloc_new _ _
  have hz9 : W9.heap.size = w8.heap.size + 1 := by rw [hW9]; simp
  have hb89 := below_step hb8 hb9
  have HB9 := Aside0.mk (below_step HB7.out hb89)
  have HV5 := Aside0.mk (blk_below HZ5.out hb89)
  have HV6 := Aside0.mk (blk_below HZ6.out hb89)
  have HV7 := Aside0.mk (blk_below HZ7.out hb89)
  have HV8 := Aside0.mk (blk_below h8 hb9)
  have HV9 := Aside0.mk (blk_below HZ9.out hb89)
  have HV10 := Aside0.mk (blk_below HZ10.out hb89)
  have HV12 := Aside0.mk h12
  have HVC := Aside0.mk (Kd.C_below HZC.out hb89)
  have HVT := Aside0.mk (Kd.C_below HZT.out hb89)
  have HVA := Aside0.mk (Kd.F_bound (Kd.F_below HZA.out hb89))
  have HW9 := Aside0.mk hW9
  have HZ8 := Aside0.mk hz8
  have HS9 := Aside0.mk hz9
  clear hw8 hb8 h8 hz8 hW9 hb9 h12 hz9 hb89 HB7 HZ5 HZ6 HZ7 HZ9 HZ10 HZC HZT HZA HW7 hk0 hk1 hk2 hk3 hl9
  have hfn : ∀ W : World, (binOp .eql 42 (.func (.func 23) #[] #[.pointer (some ⟨W7.heap.size, 0, none⟩)]) .nilFunc).run Try.prog W = .ok (.bool false) W := fun W => by kernel_rfl
  gi_wp2
  rw [← HW9.out]
  refine wpIn_loop_rounds 3 ?_
  obtain ⟨kids, hke, hTT⟩ := exists_AT W9 _ ⟨tk, tw, twd, tl⟩ (Nat.lt_succ_self _) A4 c4 HC4.out HVT.out
  simp only at hke hTT
  obtain ⟨T, hTe⟩ : ∃ T, T = AT.node tk tw twd A4 c4 kids := ⟨_, rfl⟩
  have HTT := Aside0.mk (show AtT W9 T by rw [hTe]; exact hTT)
  have HKL := Aside0.mk (show tl.length = kids.length by rw [← hke, eraseL_length])
  have HALL := Aside0.mk (show T.all.map er = allT ⟨tk, tw, twd, tl⟩ by rw [er_all, hTe, AT.erase, hke])
  have HTE := Aside0.mk hTe
  clear hke hTT hTe
  have HL9 := Aside0.mk (Below.refl W9.heap.size W9)
  rw [roundsIn_succ]
  have k12 := blk_cell HV12.out 0
  have l12 := blk_lt HV12.out
  simp at k12
  gi_wp2
  obtain ⟨Wi, hWi⟩ : ∃ Wi, Wi = W9.alloc (.cells #[.int .i64 0] 3) := ⟨_, rfl⟩
  rw [← hWi]
  have hbi : Below W9.heap.size W9 Wi := by rw [hWi]; exact below_alloc (Below.refl _ _) _
  have h13 : Wi.heap[W9.heap.size]? = some (.cells #[.int .i64 0] 3 (0, 0)) := by rw [hWi]; exact heap_alloc_new _ _
  have hzi : Wi.heap.size = W9.heap.size + 1 := by rw [hWi]; simp
  have hnb : Wi.heap[W7.heap.size]? = some (boxN tk tw twd A4 kids.length c4) := by rw [← HKL.out]; exact blk_below (blk_low HL9.out HV8.out) hbi
  have h12i := blk_below HV12.out hbi
  have HBI := Aside0.mk (HL9.out.trans (hbi.mono HL9.out.size))
  have HTI := Aside0.mk hbi
  have HLS := Aside0.mk HL9.out.size
  have H13 := Aside0.mk h13
  have H12 := Aside0.mk h12i
  have HZI := Aside0.mk hzi
  have HNB := Aside0.mk hnb
  obtain ⟨EX, hEX⟩ : ∃ EX : World → Prop, EX = fun _ => True := ⟨_, rfl⟩
  have EX0 := Aside0.mk (show EX Wi by rw [hEX]; exact trivial)
  have EXB := Aside0.mk (show ∀ A B : World, Below A.heap.size A B → EX A → EX B by rw [hEX]; exact fun A B hb h => trivial)
  have EXG := Aside0.mk (show ∀ (A B : World) (row : Option Nat), EX A → A.grownBy B row → (∀ r, row = some r → Wi.heap.size ≤ r) → EX B by rw [hEX]; exact fun A B row h hg hr => trivial)
  have EXS := Aside0.mk (show ∀ (A : World) (p : Addr) (v : Value), p.block = W9.heap.size → EX A → EX (A.setCell p v) by rw [hEX]; exact fun A p v hp h => trivial)
  have HEX := Aside0.mk hEX
  clear hEX
  clear hWi hbi h13 h12i hzi hnb k12
  refine rangeG (w := Wi) (gf := 23) (lb := #[.pointer (some ⟨W7.heap.size, 0, none⟩)]) rfl (enters_of Try.func23 (by kernel_rfl) rfl)
    (walk_stops W9 W9.heap.size Wi.heap.size rfl (by have := HZI.out; have := HLS.out; omega) [] (fun b hb => by cases hb) W7.heap.size T Wi HTT.out HBI.out (by rw [HTE.out]; exact HNB.out))
    (fun h k => Kp.trans h k) (fun W o o' h hc => Kp.record (fun b hb => by cases hb) (by have := HZI.out; have := HLS.out; omega) W o o' h hc) (Below.refl _ _) (fun _ => rfl)
    (fun pre X => Below W9.heap.size W9 X ∧ X.heap[w8.heap.size]? = some (.cells #[.int .i64 0] 3 (0, 0)) ∧ X.heap[W9.heap.size]? = some (.cells #[.int .i64 (pre.length : Int)] 3 (0, 0)) ∧ Wi.heap.size + 2 ≤ X.heap.size ∧ EX X)
    (fun c pre X => c = .exit 2 ∧ (0 : Int) = 0 ∧ (pre.length : Int) = stop ∧ Below W9.heap.size W9 X ∧ X.heap[w8.heap.size]? = some (.cells #[.int .i64 0] 3 (0, 0)) ∧ X.heap[W9.heap.size]? = some (.cells #[.int .i64 (pre.length : Int)] 3 (0, 0)) ∧ EX X)
    (fun s A B row hs hg hr => ⟨hs.1.grown hg hs.1.size (fun q hq => by have := (hr q hq).1; have := HZI.out; have := HLS.out; omega), own_cells () A B row hs.2.1 hg hr, own_cells () A B row hs.2.2.1 hg hr, Nat.le_trans hs.2.2.2.1 hg.size, EXG.out A B row hs.2.2.2.2 hg (fun r hr' => (hr r hr').1)⟩)
    (fun c s A B row hs hg hr => ⟨hs.1, hs.2.1, hs.2.2.1, hs.2.2.2.1.grown hg hs.2.2.2.1.size (fun q hq => by have := (hr q hq).1; have := HZI.out; have := HLS.out; omega), own_cells () A B row hs.2.2.2.2.1 hg hr, own_cells () A B row hs.2.2.2.2.2.1 hg hr, EXG.out A B row hs.2.2.2.2.2.2 hg (fun r hr' => (hr r hr').1)⟩)
    (fun pre X h => ⟨fun q hq => (by obtain ⟨_, hb, _⟩ := hq; cases hb), h.2.2.2.1⟩)
    (fun Wq hbq hsq => ⟨HBI.out.trans (hbq.mono HBI.out.size), blk_below H12.out hbq, blk_below H13.out hbq, hsq, EXB.out _ _ hbq EX0.out⟩)
    ?_ 2 (fun W' => ∃ i : Nat, (i = T.all.length ∨ ((0 : Int) = 0 ∧ (i : Int) = stop)) ∧ i ≤ T.all.length ∧ Below W9.heap.size W9 W' ∧ W'.heap[w8.heap.size]? = some (.cells #[.int .i64 0] 3 (0, 0)) ∧ W'.heap[W9.heap.size]? = some (.cells #[.int .i64 i] 3 (0, 0)) ∧ W'.heap[Wi.heap.size]? = some (.deferred (some [])) ∧ EX W')
    (fun a W h => by simpa [Exit.inBlock] using h) ?_ ?_ ?_
  rotate_left
  · skip
    rintro xs X hS ⟨hl, h12, h13, _, hex⟩ hD
    refine ⟨xs.length, .inl ?_, ?_, hl, h12, h13, hD, hex⟩
    · rw [← hS, List.length_map]
    · rw [← hS, List.length_map]; exact Nat.le_refl _
  · skip
    rintro c pre X hS ⟨rfl, _, hst, hl, h12, h13, hex⟩ hD
    refine ⟨rfl, pre.length, .inr ⟨rfl, hst⟩, ?_, hl, h12, h13, hD, hex⟩
    have := List.IsPrefix.length_le hS
    rw [List.length_map] at this
    exact this
  rotate_left
  · skip
    rintro l' pre ⟨⟨⟨nk, nw, nwd, nA, nc, nkids⟩, f, d⟩, hTn⟩ X C hX ⟨hlow, h12, h13, hs, hex⟩ hp hC
    obtain ⟨xx, hxx⟩ : ∃ xx : Told W9, xx = ⟨(AT.node nk nw nwd nA nc nkids, f, d), hTn⟩ := ⟨_, rfl⟩
    have HXX := Aside0.mk (show xx.1 = (AT.node nk nw nwd nA nc nkids, f, d) by rw [hxx])
    have HC := Aside0.mk hC
    have HP := Aside0.mk hp
    rw [← hxx] at HC HP
    obtain ⟨X2, hX2⟩ : ∃ X2, X2 = (X.alloc (.cells #[.int .i64 f, .int .i64 (wrap64 (f + nwd))] 31)).alloc (boxN nk nw nwd nA nkids.length nc) := ⟨_, rfl⟩
    have hbx : Below X.heap.size X X2 := by rw [hX2]; exact Below.alloc (below_alloc (Below.refl _ _) _) (by simp) _
    have h15 : X2.heap[X.heap.size + 1]? = some (boxN nk nw nwd nA nkids.length nc) := by
      rw [hX2]
      have := heap_alloc_new (X.alloc (.cells #[.int .i64 f, .int .i64 (wrap64 (f + nwd))] 31)) (boxN nk nw nwd nA nkids.length nc)
      simpa using this
    have h14 : X2.heap[X.heap.size]? = some (.cells #[.int .i64 f, .int .i64 (wrap64 (f + nwd))] 31 (0, 0)) := by
      rw [hX2, Below.heap_alloc _ _ _ (by simp)]
      exact heap_alloc_new X _
    have HBX := Aside0.mk hbx
    have H14 := Aside0.mk h14
    have H15 := Aside0.mk h15
    have HX2 := Aside0.mk hX2
    have HI := Aside0.mk (And.intro hlow (And.intro h12 (And.intro h13 (And.intro hs hex))))
    have hus := Try.underlying31
    clear hC hp hxx hbx h14 h15 hX2 hlow h12 h13 hex
    simp only [spanV, AT.val, AT.k, AT.w, AT.wd, AT.A, AT.c, AT.kids]
    gi_wp2
    rw [← HX2.out]
    refine HC.out _ _ ⟨HBX.out.size, fun q o _ ho _ => (HBX.out.block q (Array.getElem?_eq_some_iff.1 ho).1).trans ho⟩ (Kp.of_below (fun b hb => by cases hb) HI.out.1.size (by omega) HBX.out) ⟨HI.out.1.trans (HBX.out.mono HI.out.1.size), blk_below HI.out.2.1 HBX.out, blk_below HI.out.2.2.1 HBX.out, Nat.le_trans HI.out.2.2.2.1 HBX.out.size, EXB.out _ _ HBX.out HI.out.2.2.2.2⟩ (fun Wb hKb hIb hcells hszb => ?_)
    obtain ⟨hlow, h12, h13, hsb, hexb⟩ := hIb
    have HEXB := Aside0.mk hexb
    clear hexb
    obtain ⟨i, hi⟩ : ∃ i, i = pre.length := ⟨_, rfl⟩
    rw [← hi] at h13
    have hel : T.all[i]? = some (AT.node nk nw nwd nA nc nkids, f, d) := by
      obtain ⟨q, hq⟩ := HP.out
      rw [← hq, List.map_append, List.append_assoc, List.getElem?_append_right (by simp [hi]), hi]
      simp [HXX.out]
    have hel2 : al[i]? = some (seenS (er (AT.node nk nw nwd nA nc nkids, f, d))) := by
      rw [HAL.out, ← HALL.out, List.getElem?_map, List.getElem?_map, hel]
      rfl
    have hil : i < al.length := (List.getElem?_eq_some_iff.1 hel2).1
    obtain ⟨ad, A3, c3, eA, ⟨g0, g1, g2, g3, g4, g5⟩, gl, gF⟩ := at_SeenF (Kd.F_below HVA.out hlow) i hil _ hel2
    subst eA
    simp only [seenS, er, AT.erase, eraseL_length] at g0 g1 g2 g3 g4 g5 gl gF
    have hnd : AtT Wb (AT.node nk nw nwd nA nc nkids) := AtT.below hlow _ hTn
    have hcT := C_of_AT _ _ (Nat.lt_succ_self _) Wb hnd
    simp only [AT.A, AT.kids] at hcT
    have hcl : nkids.length ≤ nc := by simp only [AtT] at hnd; exact hnd.1
    have hsm := glossatorref15_Same.calls k nk nw nwd nA nc (eraseL nkids) nk nw nwd A3 c3 (eraseL nkids) true Wb.drew (by rw [eraseL_length]; exact Kd.C_below hcT (below_drew (Below.refl _ _))) (by rw [eraseL_length]; exact hcl) (by rw [eraseL_length]; exact Kd.C_below (Kd.F_now gF) (below_drew (Below.refl _ _))) (by rw [eraseL_length]; exact gl) (by
      have := HS.out (er (AT.node nk nw nwd nA nc nkids, f, d)) (by rw [← HALL.out]; exact List.mem_map_of_mem (List.mem_of_getElem? hel))
      simpa only [er, AT.erase] using this)
    rw [eraseL_length] at hsm
    have HSM := Aside0.mk hsm
    have hV10 := (hlow.block _ (blk_lt HV10.out)).trans HV10.out
    have hV5 := (hlow.block _ (blk_lt HV5.out)).trans HV5.out
    have m0 := blk_cell h13 0
    have m1 := blk_cell hV10 0
    have hw14 := hcells _ _ _ _ H14.out
    have hw15 := hcells _ _ _ _ H15.out
    have m2 := blk_cell hw14 0
    have m3 := blk_cell hw14 1
    have m4 := blk_cell hw15 0
    have m5 := blk_cell hw15 1
    have m6 := blk_cell hw15 2
    have m7 := blk_cell hw15 3
    simp at m0 m1 m2 m3 m4 m5 m6 m7
    have HSS := Aside0.mk (And.intro m0 (And.intro m1 (And.intro m2 (And.intro m3 (And.intro m4 (And.intro m5 (And.intro m6 (And.intro m7 (And.intro g0 (And.intro g1 (And.intro g2 (And.intro g3 (And.intro g4 g5)))))))))))))
    have HLOW := Aside0.mk hlow
    have H12b := Aside0.mk h12
    have H13b := Aside0.mk h13
    have HV5b := Aside0.mk hV5
    have HKB := Aside0.mk hKb
    have HIL := Aside0.mk hi
    have i0 : (0 : Int) ≤ (i : Int) := by omega
    have i1 : (i : Int) < (al.length : Int) := by omega
    have i2 : ¬ al.length ≤ i := by omega
    clear hel hel2 hlow h12 h13 hi hnd hcT hcl hsm gF gl hV10 hV5 hw14 hw15 m0 m1 m2 m3 m4 m5 m6 m7 g0 g1 g2 g3 g4 g5 hKb hcells hil
    gi_wp2
    refine round_need [0, 1, 2, 3, 4, 5, 6, 7, 8, 9, 10, 11, 12, 13, 14, 15, 16, 17, 18, 19, 20, 21, 22] (fun W' => W'.cell? ⟨W9.heap.size, 0, none⟩ = some (.int .i64 i) ∧ W'.cell? ⟨w6.heap.size, 0, none⟩ = some (.slice (some ad) al.length c6) ∧ W'.cell? ⟨X.heap.size, 0, none⟩ = some (.int .i64 f) ∧ W'.cell? ⟨X.heap.size, 1, none⟩ = some (.int .i64 (wrap64 (f + nwd))) ∧ W'.cell? ⟨X.heap.size + 1, 0, none⟩ = some (.int .u8 nk) ∧ W'.cell? ⟨X.heap.size + 1, 1, none⟩ = some (.int .u8 nw) ∧ W'.cell? ⟨X.heap.size + 1, 2, none⟩ = some (.int .i64 nwd) ∧ W'.cell? ⟨X.heap.size + 1, 3, none⟩ = some (.slice nA nkids.length nc) ∧
      W'.cell? (ad.add (i * 7)) = some (.int .u8 nk) ∧ W'.cell? ⟨(ad.add (i * 7)).block, (ad.add (i * 7)).off + 1, none⟩ = some (.int .u8 nw) ∧ W'.cell? ⟨(ad.add (i * 7)).block, (ad.add (i * 7)).off + 2, none⟩ = some (.int .i64 nwd) ∧ W'.cell? ⟨(ad.add (i * 7)).block, (ad.add (i * 7)).off + 3, none⟩ = some (.slice A3 nkids.length c3) ∧ W'.cell? ⟨(ad.add (i * 7)).block, (ad.add (i * 7)).off + 4, none⟩ = some (.int .i64 f) ∧ W'.cell? ⟨(ad.add (i * 7)).block, (ad.add (i * 7)).off + 5, none⟩ = some (.int .i64 (wrap64 (f + nwd)))) (by kernel_rfl) (by kernel_rfl) (fun ⟨_, _, h⟩ => h) ?_
    refine wpAnyN_take (i := 0) (v := ?_) rfl (by kernel_rfl) (by kernel_rfl) (by kernel_rfl) (by kernel_rfl) (fun _ _ _ h => h) (.inl ⟨by rfl, ?_⟩) HSS.out ?_
    rotate_left
    · (intro W' hW'; obtain ⟨s0, s1, s2, s3, s4, s5, s6, s7, s8, s9, s10, s11, s12, s13⟩ := hW'; go_simp; try rfl)
    simp only [Act.put, List.setIfInBounds_toArray, List.set_cons_zero, List.set_cons_succ]
    refine wpAnyN_take (i := 1) (v := ?_) rfl (by kernel_rfl) (by kernel_rfl) (by kernel_rfl) (by kernel_rfl) (fun _ _ _ h => h) (.inl ⟨by rfl, ?_⟩) HSS.out ?_
    rotate_left
    · (intro W' hW'; obtain ⟨s0, s1, s2, s3, s4, s5, s6, s7, s8, s9, s10, s11, s12, s13⟩ := hW'; go_simp; try rfl)
    simp only [Act.put, List.setIfInBounds_toArray, List.set_cons_zero, List.set_cons_succ]
    refine wpAnyN_take (i := 2) (v := ?_) rfl (by kernel_rfl) (by kernel_rfl) (by kernel_rfl) (by kernel_rfl) (fun _ _ _ h => h) (.inl ⟨by rfl, ?_⟩) HSS.out ?_
    rotate_left
    · (intro W' hW'; obtain ⟨s0, s1, s2, s3, s4, s5, s6, s7, s8, s9, s10, s11, s12, s13⟩ := hW'; go_simp; try rfl)
    simp only [Act.put, List.setIfInBounds_toArray, List.set_cons_zero, List.set_cons_succ]
    refine wpAnyN_take (i := 3) (v := ?_) rfl (by kernel_rfl) (by kernel_rfl) (by kernel_rfl) (by kernel_rfl) (fun _ _ _ h => h) (.inl ⟨by rfl, ?_⟩) HSS.out ?_
    rotate_left
    · (intro W' hW'; obtain ⟨s0, s1, s2, s3, s4, s5, s6, s7, s8, s9, s10, s11, s12, s13⟩ := hW'; go_simp; try rfl)
    simp only [Act.put, List.setIfInBounds_toArray, List.set_cons_zero, List.set_cons_succ]
    refine wpAnyN_take (i := 4) (v := ?_) rfl (by kernel_rfl) (by kernel_rfl) (by kernel_rfl) (by kernel_rfl) (fun _ _ _ h => h) (.inl ⟨by rfl, ?_⟩) HSS.out ?_
    rotate_left
    · (intro W' hW'; obtain ⟨s0, s1, s2, s3, s4, s5, s6, s7, s8, s9, s10, s11, s12, s13⟩ := hW'; go_simp; try rfl)
    simp only [Act.put, List.setIfInBounds_toArray, List.set_cons_zero, List.set_cons_succ]
    refine wpAnyN_take (i := 5) (v := ?_) rfl (by kernel_rfl) (by kernel_rfl) (by kernel_rfl) (by kernel_rfl) (fun _ _ _ h => h) (.inl ⟨by rfl, ?_⟩) HSS.out ?_
    rotate_left
    · (intro W' hW'; obtain ⟨s0, s1, s2, s3, s4, s5, s6, s7, s8, s9, s10, s11, s12, s13⟩ := hW'; go_simp; try rfl)
    simp only [Act.put, List.setIfInBounds_toArray, List.set_cons_zero, List.set_cons_succ]
    refine wpAnyN_take (i := 6) (v := ?_) rfl (by kernel_rfl) (by kernel_rfl) (by kernel_rfl) (by kernel_rfl) (fun _ _ _ h => h) (.inl ⟨by rfl, ?_⟩) HSS.out ?_
    rotate_left
    · (intro W' hW'; obtain ⟨s0, s1, s2, s3, s4, s5, s6, s7, s8, s9, s10, s11, s12, s13⟩ := hW'; go_simp; try rfl)
    simp only [Act.put, List.setIfInBounds_toArray, List.set_cons_zero, List.set_cons_succ]
    refine wpAnyN_take (i := 7) (v := ?_) rfl (by kernel_rfl) (by kernel_rfl) (by kernel_rfl) (by kernel_rfl) (fun _ _ _ h => h) (.inl ⟨by rfl, ?_⟩) HSS.out ?_
    rotate_left
    · (intro W' hW'; obtain ⟨s0, s1, s2, s3, s4, s5, s6, s7, s8, s9, s10, s11, s12, s13⟩ := hW'; go_simp; try rfl)
    simp only [Act.put, List.setIfInBounds_toArray, List.set_cons_zero, List.set_cons_succ]
    refine wpAnyN_take (i := 8) (v := ?_) rfl (by kernel_rfl) (by kernel_rfl) (by kernel_rfl) (by kernel_rfl) (fun _ _ _ h => h) (.inl ⟨by rfl, ?_⟩) HSS.out ?_
    rotate_left
    · (intro W' hW'; obtain ⟨s0, s1, s2, s3, s4, s5, s6, s7, s8, s9, s10, s11, s12, s13⟩ := hW'; go_simp; try rfl)
    simp only [Act.put, List.setIfInBounds_toArray, List.set_cons_zero, List.set_cons_succ]
    refine wpAnyN_take (i := 9) (v := ?_) rfl (by kernel_rfl) (by kernel_rfl) (by kernel_rfl) (by kernel_rfl) (fun _ _ _ h => h) (.inl ⟨by rfl, ?_⟩) HSS.out ?_
    rotate_left
    · (intro W' hW'; obtain ⟨s0, s1, s2, s3, s4, s5, s6, s7, s8, s9, s10, s11, s12, s13⟩ := hW'; go_simp; try rfl)
    simp only [Act.put, List.setIfInBounds_toArray, List.set_cons_zero, List.set_cons_succ]
    refine wpAnyN_take (i := 10) (v := ?_) rfl (by kernel_rfl) (by kernel_rfl) (by kernel_rfl) (by kernel_rfl) (fun _ _ _ h => h) (.inl ⟨by rfl, ?_⟩) HSS.out ?_
    rotate_left
    · (intro W' hW'; obtain ⟨s0, s1, s2, s3, s4, s5, s6, s7, s8, s9, s10, s11, s12, s13⟩ := hW'; go_simp; try rfl)
    simp only [Act.put, List.setIfInBounds_toArray, List.set_cons_zero, List.set_cons_succ]
    refine wpAnyN_take (i := 11) (v := ?_) rfl (by kernel_rfl) (by kernel_rfl) (by kernel_rfl) (by kernel_rfl) (fun _ _ _ h => h) (.inl ⟨by rfl, ?_⟩) HSS.out ?_
    rotate_left
    · (intro W' hW'; obtain ⟨s0, s1, s2, s3, s4, s5, s6, s7, s8, s9, s10, s11, s12, s13⟩ := hW'; go_simp; try rfl)
    simp only [Act.put, List.setIfInBounds_toArray, List.set_cons_zero, List.set_cons_succ]
    refine wpAnyN_take (i := 12) (v := ?_) rfl (by kernel_rfl) (by kernel_rfl) (by kernel_rfl) (by kernel_rfl) (fun _ _ _ h => h) (.inl ⟨by rfl, ?_⟩) HSS.out ?_
    rotate_left
    · (intro W' hW'; obtain ⟨s0, s1, s2, s3, s4, s5, s6, s7, s8, s9, s10, s11, s12, s13⟩ := hW'; go_simp; try rfl)
    simp only [Act.put, List.setIfInBounds_toArray, List.set_cons_zero, List.set_cons_succ]
    refine wpAnyN_take (i := 13) (v := ?_) rfl (by kernel_rfl) (by kernel_rfl) (by kernel_rfl) (by kernel_rfl) (fun _ _ _ h => h) (.inl ⟨by rfl, ?_⟩) HSS.out ?_
    rotate_left
    · (intro W' hW'; obtain ⟨s0, s1, s2, s3, s4, s5, s6, s7, s8, s9, s10, s11, s12, s13⟩ := hW'; go_simp; try rfl)
    simp only [Act.put, List.setIfInBounds_toArray, List.set_cons_zero, List.set_cons_succ]
    refine wpAnyN_take (i := 14) (v := ?_) rfl (by kernel_rfl) (by kernel_rfl) (by kernel_rfl) (by kernel_rfl) (fun _ _ _ h => h) (.inl ⟨by rfl, ?_⟩) HSS.out ?_
    rotate_left
    · (intro W' hW'; obtain ⟨s0, s1, s2, s3, s4, s5, s6, s7, s8, s9, s10, s11, s12, s13⟩ := hW'; go_simp; try rfl)
    simp only [Act.put, List.setIfInBounds_toArray, List.set_cons_zero, List.set_cons_succ]
    refine wpAnyN_take (i := 15) (v := ?_) rfl (by kernel_rfl) (by kernel_rfl) (by kernel_rfl) (by kernel_rfl) (fun _ _ _ h => h) (.inl ⟨by rfl, ?_⟩) HSS.out ?_
    rotate_left
    · (intro W' hW'; obtain ⟨s0, s1, s2, s3, s4, s5, s6, s7, s8, s9, s10, s11, s12, s13⟩ := hW'; go_simp; try rfl)
    simp only [Act.put, List.setIfInBounds_toArray, List.set_cons_zero, List.set_cons_succ]
    refine wpAnyN_take (i := 16) (v := ?_) rfl (by kernel_rfl) (by kernel_rfl) (by kernel_rfl) (by kernel_rfl) (fun _ _ _ h => h) (.inl ⟨by rfl, ?_⟩) HSS.out ?_
    rotate_left
    · (intro W' hW'; obtain ⟨s0, s1, s2, s3, s4, s5, s6, s7, s8, s9, s10, s11, s12, s13⟩ := hW'; go_simp; try rfl)
    simp only [Act.put, List.setIfInBounds_toArray, List.set_cons_zero, List.set_cons_succ]
    refine wpAnyN_take (i := 17) (v := ?_) rfl (by kernel_rfl) (by kernel_rfl) (by kernel_rfl) (by kernel_rfl) (fun _ _ _ h => h) (.inl ⟨by rfl, ?_⟩) HSS.out ?_
    rotate_left
    · (intro W' hW'; obtain ⟨s0, s1, s2, s3, s4, s5, s6, s7, s8, s9, s10, s11, s12, s13⟩ := hW'; go_simp; try rfl)
    simp only [Act.put, List.setIfInBounds_toArray, List.set_cons_zero, List.set_cons_succ]
    refine wpAnyN_take (i := 18) (v := ?_) rfl (by kernel_rfl) (by kernel_rfl) (by kernel_rfl) (by kernel_rfl) (fun _ _ _ h => h) (.inl ⟨by rfl, ?_⟩) HSS.out ?_
    rotate_left
    · (intro W' hW'; obtain ⟨s0, s1, s2, s3, s4, s5, s6, s7, s8, s9, s10, s11, s12, s13⟩ := hW'; go_simp; try rfl)
    simp only [Act.put, List.setIfInBounds_toArray, List.set_cons_zero, List.set_cons_succ]
    refine wpAnyN_take (i := 19) (v := ?_) rfl (by kernel_rfl) (by kernel_rfl) (by kernel_rfl) (by kernel_rfl) (fun _ _ _ h => h) (.inl ⟨by rfl, ?_⟩) HSS.out ?_
    rotate_left
    · (intro W' hW'; obtain ⟨s0, s1, s2, s3, s4, s5, s6, s7, s8, s9, s10, s11, s12, s13⟩ := hW'; go_simp; try rfl)
    simp only [Act.put, List.setIfInBounds_toArray, List.set_cons_zero, List.set_cons_succ]
    refine wpAnyN_one (i := 20) rfl (by kernel_rfl) (fun K hK => ?_)
    go_simp
    refine HSM.out.mono ?_
    rintro e Ws ⟨rfl, hbs⟩
    have hbs' : Below Wb.heap.size Wb Ws := (below_drew (Below.refl _ _)).trans hbs
    have HBS := Aside0.mk hbs'
    have HSS2 := Aside0.mk (show _ from (by
      obtain ⟨s0, s1, s2, s3, s4, s5, s6, s7, s8, s9, s10, s11, s12, s13⟩ := HSS.out
      exact And.intro (pw_cell_below hbs' s0) (And.intro (pw_cell_below hbs' s1) (And.intro (pw_cell_below hbs' s2) (And.intro (pw_cell_below hbs' s3) (And.intro (pw_cell_below hbs' s4) (And.intro (pw_cell_below hbs' s5) (And.intro (pw_cell_below hbs' s6) (And.intro (pw_cell_below hbs' s7) (And.intro (pw_cell_below hbs' s8) (And.intro (pw_cell_below hbs' s9) (And.intro (pw_cell_below hbs' s10) (And.intro (pw_cell_below hbs' s11) (And.intro (pw_cell_below hbs' s12) (pw_cell_below hbs' s13)))))))))))))))
    clear hbs hbs'
    refine hK.out _ _ (fun _ => HSS2.out) (fun _ => ?_)
    clear hK K HSS
    refine wpAnyN_take (i := 21) (v := ?_) rfl (by kernel_rfl) (by kernel_rfl) (by kernel_rfl) (by kernel_rfl) (fun _ _ _ h => h) (.inl ⟨by rfl, ?_⟩) HSS2.out ?_
    rotate_left
    · (intro W' hW'; obtain ⟨s0, s1, s2, s3, s4, s5, s6, s7, s8, s9, s10, s11, s12, s13⟩ := hW'; go_simp; try rfl)
    simp only [Act.put, List.setIfInBounds_toArray, List.set_cons_zero, List.set_cons_succ]
    refine wpAnyN_take (i := 22) (v := ?_) rfl (by kernel_rfl) (by kernel_rfl) (by kernel_rfl) (by kernel_rfl) (fun _ _ _ h => h) (.inl ⟨by rfl, ?_⟩) HSS2.out ?_
    rotate_left
    · (intro W' hW'; obtain ⟨s0, s1, s2, s3, s4, s5, s6, s7, s8, s9, s10, s11, s12, s13⟩ := hW'; go_simp; try rfl)
    simp only [Act.put, List.setIfInBounds_toArray, List.set_cons_zero, List.set_cons_succ]
    refine wpAnyN_done (by kernel_rfl) ?_ _
    have hal : al.length ≤ 3000 := by rw [HAL.out, List.length_map]; exact Nat.le_trans (allT_length _) HSZ.out
    have b0 : (i : Int) ≤ 3000 := by omega
    have H13s := Aside0.mk (blk_below H13b.out HBS.out)
    have H12s := Aside0.mk (blk_below H12b.out HBS.out)
    have H5s := Aside0.mk (blk_below HV5b.out HBS.out)
    have n13 := blk_cell H13s.out 0
    have f13 := blk_frozen H13s.out 0
    have l13 := blk_lt H13s.out
    have n12 := blk_cell H12s.out 0
    have n5 := blk_cell H5s.out 0
    have l5 := blk_lt H5s.out
    simp at n13 n12 n5
    have ne12 : W9.heap.size ≠ w8.heap.size := by have := blk_lt HV12.out; omega
    have ne5 : W9.heap.size ≠ w.heap.size := by have := blk_lt HV5.out; have := HLS.out; omega
    have ne12' := ne12.symm
    have ne5' := ne5.symm
    clear hal i2
    have hend : ∀ Wf : World, Wf = Ws.setCell ⟨W9.heap.size, 0, none⟩ (.int .i64 ((i : Int) + 1)) → KeepsFrom Wi.heap.size Wb Wf ∧ Kp W9.heap.size Wi.heap.size [] X Wf ∧ (Below W9.heap.size W9 Wf ∧ Wf.heap[w8.heap.size]? = some (.cells #[.int .i64 0] 3 (0, 0)) ∧ Wf.heap[W9.heap.size]? = some (.cells #[.int .i64 ((pre ++ [xx]).length : Int)] 3 (0, 0)) ∧ Wi.heap.size + 2 ≤ Wf.heap.size ∧ EX Wf) := by
      rintro Wf rfl
      have hzi := HZI.out
      refine ⟨keeps_set HBS.out (show W9.heap.size < Wi.heap.size by omega) _, HKB.out.trans ((Kp.of_below (fun b hb => by cases hb) HLOW.out.size (by omega) HBS.out).trans (Kp.set Ws (p := ⟨W9.heap.size, 0, none⟩) HLS.out (show W9.heap.size < Wi.heap.size by omega) _)), (HLOW.out.trans (HBS.out.mono HLOW.out.size)).setCell (show W9.heap.size ≤ W9.heap.size from HLS.out) _, (Below.heap_setCell _ _ _ _ ne12').trans H12s.out, ?_, by have := HBS.out.size; simp; omega, EXS.out _ _ _ rfl (EXB.out _ _ HBS.out HEXB.out)⟩
      have := blk_set H13s.out 0 (.int .i64 ((i : Int) + 1))
      rw [this, HIL.out]
      simp
    have HEND := Aside0.mk hend
    clear hend hsb
    by_cases hst : (i : Int) + 1 = stop
    · have d1 : ((i : Int) + 1 == stop) = true := beq_iff_eq.mpr hst
      have HST2 := Aside0.mk hst
      clear hst
      gi_wp2
      obtain ⟨e1, e2, e3, e4, e5, _, e7⟩ := HEND.out _ rfl
      refine ⟨e1, e2, by trivial, by trivial, ?_, e3, e4, e5, e7⟩
      have h1 := HIL.out
      have h2 := HST2.out
      simp
      omega
    · have d1 : ((i : Int) + 1 == stop) = false := beq_eq_false_iff_ne.mpr hst
      clear hst
      gi_wp2
      exact HEND.out _ rfl
  · skip
    rintro Wp ⟨n, hn, hnl, hlow, h12, h13, hD, hxx⟩
    have hal : al.length = T.all.length := by rw [HAL.out, List.length_map, ← HALL.out, List.length_map]
    have hV5 := blk_low hlow HV5.out
    have hV10 := blk_low hlow HV10.out
    have p12 := blk_cell h12 0
    have p13 := blk_cell h13 0
    have p5 := blk_cell hV5 0
    have p10 := blk_cell hV10 0
    have lp12 := blk_lt h12
    simp at p12 p13 p5 p10
    obtain ⟨Wq, hWq⟩ : ∃ Wq, Wq = Wp.alloc (.cells #[.int .i64 1] 3) := ⟨_, rfl⟩
    have HWQ := Aside0.mk hWq
    have HQ12 := Aside0.mk (show Wq.heap[Wp.heap.size]? = some (.cells #[.int .i64 1] 3 (0, 0)) by rw [hWq]; exact heap_alloc_new _ _)
    have hbq : Below Wp.heap.size Wp Wq := by rw [hWq]; exact below_alloc (Below.refl _ _) _
    have HLQ := Aside0.mk (hlow.trans (hbq.mono hlow.size))
    have HDQ := Aside0.mk (blk_below_any hD hbq)
    have HPL := Aside0.mk hlow.size
    have HWIJ := Aside0.mk (show Wi.heap.size < Wq.heap.size from (Array.getElem?_eq_some_iff.1 (blk_below_any hD hbq)).1)
    have hq : ((n : Int) != (al.length : Int)) = false ∨ (((n : Int) != (al.length : Int)) = true ∧ ((n : Int) != stop) = false) := by
      rcases hn with h | ⟨_, h⟩
      · exact .inl (by rw [h, hal]; simp)
      · by_cases e : (n : Int) = (al.length : Int)
        · exact .inl (by rw [e]; simp)
        · exact .inr ⟨bne_iff_ne.mpr e, by rw [h]; simp⟩
    clear hn hnl hlow h12 h13 hD hal hV5 hV10 hWq hbq hxx EX0 EXB EXG EXS HEX EX HNB H12 H13 HBI HTI HLS l12
    rcases hq with q1 | ⟨q1, q2⟩
    all_goals
      gi_wp2
      rw [← HWQ.out]
      clear p12 p13 p5 p10 lp12 q1
      rw [roundsIn_succ]
      have k12 := blk_cell HQ12.out 0
      have l12 := blk_lt HQ12.out
      simp at k12
      gi_wp2
      obtain ⟨Wj, hWj⟩ : ∃ Wj, Wj = Wq.alloc (.cells #[.int .i64 0] 3) := ⟨_, rfl⟩
      rw [← hWj]
      have hbi : Below Wq.heap.size Wq Wj := by rw [hWj]; exact below_alloc (Below.refl _ _) _
      have h13 : Wj.heap[Wq.heap.size]? = some (.cells #[.int .i64 0] 3 (0, 0)) := by rw [hWj]; exact heap_alloc_new _ _
      have hzi : Wj.heap.size = Wq.heap.size + 1 := by rw [hWj]; simp
      have hnb : Wj.heap[W7.heap.size]? = some (boxN tk tw twd A4 kids.length c4) := by rw [← HKL.out]; exact blk_below (blk_low HLQ.out HV8.out) hbi
      have h12i := blk_below HQ12.out hbi
      have HBI := Aside0.mk (HLQ.out.trans (hbi.mono HLQ.out.size))
      have HTI := Aside0.mk hbi
      have HLS := Aside0.mk HLQ.out.size
      have H13 := Aside0.mk h13
      have H12 := Aside0.mk h12i
      have HZI2 := Aside0.mk hzi
      have HNB := Aside0.mk hnb
      obtain ⟨EX, hEX⟩ : ∃ EX : World → Prop, EX = fun X => X.heap[Wi.heap.size]? = some (.deferred (some [])) := ⟨_, rfl⟩
      have EX0 := Aside0.mk (show EX Wj by rw [hEX]; exact blk_below_any HDQ.out HTI.out)
      have EXB := Aside0.mk (show ∀ A B : World, Below A.heap.size A B → EX A → EX B by rw [hEX]; exact fun A B hb h => blk_below_any h hb)
      have EXG := Aside0.mk (show ∀ (A B : World) (row : Option Nat), EX A → A.grownBy B row → (∀ r, row = some r → Wj.heap.size ≤ r) → EX B by rw [hEX]; exact fun A B row h hg hr => (hg.block _ (Array.getElem?_eq_some_iff.1 h).1 (fun e => by have h1 := hr _ e.symm; have h2 := HWIJ.out; have h3 := HZI2.out; omega)).trans h)
      have EXS := Aside0.mk (show ∀ (A : World) (p : Addr) (v : Value), p.block = Wq.heap.size → EX A → EX (A.setCell p v) by rw [hEX]; exact fun A p v hp h => (Below.heap_setCell _ _ _ _ (by have h2 := HWIJ.out; omega)).trans h)
      have HEX := Aside0.mk hEX
      clear hEX
      clear hWj hbi h13 h12i hzi hnb k12
      refine rangeG (w := Wj) (gf := 23) (lb := #[.pointer (some ⟨W7.heap.size, 0, none⟩)]) rfl (enters_of Try.func23 (by kernel_rfl) rfl)
        (walk_stops W9 W9.heap.size Wj.heap.size rfl (by have := HZI2.out; have := HLS.out; omega) [] (fun b hb => by cases hb) W7.heap.size T Wj HTT.out HBI.out (by rw [HTE.out]; exact HNB.out))
        (fun h k => Kp.trans h k) (fun W o o' h hc => Kp.record (fun b hb => by cases hb) (by have := HZI2.out; have := HLS.out; omega) W o o' h hc) (Below.refl _ _) (fun _ => rfl)
        (fun pre X => Below W9.heap.size W9 X ∧ X.heap[Wp.heap.size]? = some (.cells #[.int .i64 1] 3 (0, 0)) ∧ X.heap[Wq.heap.size]? = some (.cells #[.int .i64 (pre.length : Int)] 3 (0, 0)) ∧ Wj.heap.size + 2 ≤ X.heap.size ∧ EX X)
        (fun c pre X => False)
        (fun s A B row hs hg hr => ⟨hs.1.grown hg hs.1.size (fun q hq => by have := (hr q hq).1; have := HZI2.out; have := HLS.out; omega), own_cells () A B row hs.2.1 hg hr, own_cells () A B row hs.2.2.1 hg hr, Nat.le_trans hs.2.2.2.1 hg.size, EXG.out A B row hs.2.2.2.2 hg (fun r hr' => (hr r hr').1)⟩)
        (fun c s A B row hs hg hr => hs)
        (fun pre X h => ⟨fun q hq => (by obtain ⟨_, hb, _⟩ := hq; cases hb), h.2.2.2.1⟩)
        (fun Wq hbq hsq => ⟨HBI.out.trans (hbq.mono HBI.out.size), blk_below H12.out hbq, blk_below H13.out hbq, hsq, EXB.out _ _ hbq EX0.out⟩)
        ?_ 2 (fun W' => ∃ i : Nat, (i = T.all.length ∨ ((1 : Int) = 0 ∧ (i : Int) = stop)) ∧ i ≤ T.all.length ∧ Below W9.heap.size W9 W' ∧ W'.heap[Wp.heap.size]? = some (.cells #[.int .i64 1] 3 (0, 0)) ∧ W'.heap[Wq.heap.size]? = some (.cells #[.int .i64 i] 3 (0, 0)) ∧ W'.heap[Wj.heap.size]? = some (.deferred (some [])) ∧ EX W')
        (fun a W h => by simpa [Exit.inBlock] using h) ?_ ?_ ?_
      rotate_left
      · skip
        rintro xs X hS ⟨hl, h12, h13, _, hex⟩ hD
        refine ⟨xs.length, .inl ?_, ?_, hl, h12, h13, hD, hex⟩
        · rw [← hS, List.length_map]
        · rw [← hS, List.length_map]; exact Nat.le_refl _
      · skip
        rintro c pre X hS h _
        exact h.elim
      rotate_left
      · skip
        rintro l' pre ⟨⟨⟨nk, nw, nwd, nA, nc, nkids⟩, f, d⟩, hTn⟩ X C hX ⟨hlow, h12, h13, hs, hex⟩ hp hC
        obtain ⟨xx, hxx⟩ : ∃ xx : Told W9, xx = ⟨(AT.node nk nw nwd nA nc nkids, f, d), hTn⟩ := ⟨_, rfl⟩
        have HXX := Aside0.mk (show xx.1 = (AT.node nk nw nwd nA nc nkids, f, d) by rw [hxx])
        have HC := Aside0.mk hC
        have HP := Aside0.mk hp
        rw [← hxx] at HC HP
        obtain ⟨X2, hX2⟩ : ∃ X2, X2 = (X.alloc (.cells #[.int .i64 f, .int .i64 (wrap64 (f + nwd))] 31)).alloc (boxN nk nw nwd nA nkids.length nc) := ⟨_, rfl⟩
        have hbx : Below X.heap.size X X2 := by rw [hX2]; exact Below.alloc (below_alloc (Below.refl _ _) _) (by simp) _
        have h15 : X2.heap[X.heap.size + 1]? = some (boxN nk nw nwd nA nkids.length nc) := by
          rw [hX2]
          have := heap_alloc_new (X.alloc (.cells #[.int .i64 f, .int .i64 (wrap64 (f + nwd))] 31)) (boxN nk nw nwd nA nkids.length nc)
          simpa using this
        have h14 : X2.heap[X.heap.size]? = some (.cells #[.int .i64 f, .int .i64 (wrap64 (f + nwd))] 31 (0, 0)) := by
          rw [hX2, Below.heap_alloc _ _ _ (by simp)]
          exact heap_alloc_new X _
        have HBX := Aside0.mk hbx
        have H14 := Aside0.mk h14
        have H15 := Aside0.mk h15
        have HX2 := Aside0.mk hX2
        have HI := Aside0.mk (And.intro hlow (And.intro h12 (And.intro h13 (And.intro hs hex))))
        have hus := Try.underlying31
        clear hC hp hxx hbx h14 h15 hX2 hlow h12 h13 hex
        simp only [spanV, AT.val, AT.k, AT.w, AT.wd, AT.A, AT.c, AT.kids]
        gi_wp2
        rw [← HX2.out]
        refine HC.out _ _ ⟨HBX.out.size, fun q o _ ho _ => (HBX.out.block q (Array.getElem?_eq_some_iff.1 ho).1).trans ho⟩ (Kp.of_below (fun b hb => by cases hb) HI.out.1.size (by omega) HBX.out) ⟨HI.out.1.trans (HBX.out.mono HI.out.1.size), blk_below HI.out.2.1 HBX.out, blk_below HI.out.2.2.1 HBX.out, Nat.le_trans HI.out.2.2.2.1 HBX.out.size, EXB.out _ _ HBX.out HI.out.2.2.2.2⟩ (fun Wb hKb hIb hcells hszb => ?_)
        obtain ⟨hlow, h12, h13, hsb, hexb⟩ := hIb
        have HEXB := Aside0.mk hexb
        clear hexb
        obtain ⟨i, hi⟩ : ∃ i, i = pre.length := ⟨_, rfl⟩
        rw [← hi] at h13
        have hel : T.all[i]? = some (AT.node nk nw nwd nA nc nkids, f, d) := by
          obtain ⟨q, hq⟩ := HP.out
          rw [← hq, List.map_append, List.append_assoc, List.getElem?_append_right (by simp [hi]), hi]
          simp [HXX.out]
        have hel2 : al[i]? = some (seenS (er (AT.node nk nw nwd nA nc nkids, f, d))) := by
          rw [HAL.out, ← HALL.out, List.getElem?_map, List.getElem?_map, hel]
          rfl
        have hil : i < al.length := (List.getElem?_eq_some_iff.1 hel2).1
        obtain ⟨ad, A3, c3, eA, ⟨g0, g1, g2, g3, g4, g5⟩, gl, gF⟩ := at_SeenF (Kd.F_below HVA.out hlow) i hil _ hel2
        subst eA
        simp only [seenS, er, AT.erase, eraseL_length] at g0 g1 g2 g3 g4 g5 gl gF
        have hnd : AtT Wb (AT.node nk nw nwd nA nc nkids) := AtT.below hlow _ hTn
        have hcT := C_of_AT _ _ (Nat.lt_succ_self _) Wb hnd
        simp only [AT.A, AT.kids] at hcT
        have hcl : nkids.length ≤ nc := by simp only [AtT] at hnd; exact hnd.1
        have hsm := glossatorref15_Same.calls k nk nw nwd nA nc (eraseL nkids) nk nw nwd A3 c3 (eraseL nkids) true Wb.drew (by rw [eraseL_length]; exact Kd.C_below hcT (below_drew (Below.refl _ _))) (by rw [eraseL_length]; exact hcl) (by rw [eraseL_length]; exact Kd.C_below (Kd.F_now gF) (below_drew (Below.refl _ _))) (by rw [eraseL_length]; exact gl) (by
          have := HS.out (er (AT.node nk nw nwd nA nc nkids, f, d)) (by rw [← HALL.out]; exact List.mem_map_of_mem (List.mem_of_getElem? hel))
          simpa only [er, AT.erase] using this)
        rw [eraseL_length] at hsm
        have HSM := Aside0.mk hsm
        have hV10 := (hlow.block _ (blk_lt HV10.out)).trans HV10.out
        have hV5 := (hlow.block _ (blk_lt HV5.out)).trans HV5.out
        have m0 := blk_cell h13 0
        have m1 := blk_cell hV10 0
        have hw14 := hcells _ _ _ _ H14.out
        have hw15 := hcells _ _ _ _ H15.out
        have m2 := blk_cell hw14 0
        have m3 := blk_cell hw14 1
        have m4 := blk_cell hw15 0
        have m5 := blk_cell hw15 1
        have m6 := blk_cell hw15 2
        have m7 := blk_cell hw15 3
        simp at m0 m1 m2 m3 m4 m5 m6 m7
        have HSS := Aside0.mk (And.intro m0 (And.intro m1 (And.intro m2 (And.intro m3 (And.intro m4 (And.intro m5 (And.intro m6 (And.intro m7 (And.intro g0 (And.intro g1 (And.intro g2 (And.intro g3 (And.intro g4 g5)))))))))))))
        have HLOW := Aside0.mk hlow
        have H12b := Aside0.mk h12
        have H13b := Aside0.mk h13
        have HV5b := Aside0.mk hV5
        have HKB := Aside0.mk hKb
        have HIL := Aside0.mk hi
        have i0 : (0 : Int) ≤ (i : Int) := by omega
        have i1 : (i : Int) < (al.length : Int) := by omega
        have i2 : ¬ al.length ≤ i := by omega
        clear hel hel2 hlow h12 h13 hi hnd hcT hcl hsm gF gl hV10 hV5 hw14 hw15 m0 m1 m2 m3 m4 m5 m6 m7 g0 g1 g2 g3 g4 g5 hKb hcells hil
        gi_wp2
        refine round_need [0, 1, 2, 3, 4, 5, 6, 7, 8, 9, 10, 11, 12, 13, 14, 15, 16, 17, 18, 19, 20, 21, 22] (fun W' => W'.cell? ⟨Wq.heap.size, 0, none⟩ = some (.int .i64 i) ∧ W'.cell? ⟨w6.heap.size, 0, none⟩ = some (.slice (some ad) al.length c6) ∧ W'.cell? ⟨X.heap.size, 0, none⟩ = some (.int .i64 f) ∧ W'.cell? ⟨X.heap.size, 1, none⟩ = some (.int .i64 (wrap64 (f + nwd))) ∧ W'.cell? ⟨X.heap.size + 1, 0, none⟩ = some (.int .u8 nk) ∧ W'.cell? ⟨X.heap.size + 1, 1, none⟩ = some (.int .u8 nw) ∧ W'.cell? ⟨X.heap.size + 1, 2, none⟩ = some (.int .i64 nwd) ∧ W'.cell? ⟨X.heap.size + 1, 3, none⟩ = some (.slice nA nkids.length nc) ∧
          W'.cell? (ad.add (i * 7)) = some (.int .u8 nk) ∧ W'.cell? ⟨(ad.add (i * 7)).block, (ad.add (i * 7)).off + 1, none⟩ = some (.int .u8 nw) ∧ W'.cell? ⟨(ad.add (i * 7)).block, (ad.add (i * 7)).off + 2, none⟩ = some (.int .i64 nwd) ∧ W'.cell? ⟨(ad.add (i * 7)).block, (ad.add (i * 7)).off + 3, none⟩ = some (.slice A3 nkids.length c3) ∧ W'.cell? ⟨(ad.add (i * 7)).block, (ad.add (i * 7)).off + 4, none⟩ = some (.int .i64 f) ∧ W'.cell? ⟨(ad.add (i * 7)).block, (ad.add (i * 7)).off + 5, none⟩ = some (.int .i64 (wrap64 (f + nwd)))) (by kernel_rfl) (by kernel_rfl) (fun ⟨_, _, h⟩ => h) ?_
        refine wpAnyN_take (i := 0) (v := ?_) rfl (by kernel_rfl) (by kernel_rfl) (by kernel_rfl) (by kernel_rfl) (fun _ _ _ h => h) (.inl ⟨by rfl, ?_⟩) HSS.out ?_
        rotate_left
        · (intro W' hW'; obtain ⟨s0, s1, s2, s3, s4, s5, s6, s7, s8, s9, s10, s11, s12, s13⟩ := hW'; go_simp; try rfl)
        simp only [Act.put, List.setIfInBounds_toArray, List.set_cons_zero, List.set_cons_succ]
        refine wpAnyN_take (i := 1) (v := ?_) rfl (by kernel_rfl) (by kernel_rfl) (by kernel_rfl) (by kernel_rfl) (fun _ _ _ h => h) (.inl ⟨by rfl, ?_⟩) HSS.out ?_
        rotate_left
        · (intro W' hW'; obtain ⟨s0, s1, s2, s3, s4, s5, s6, s7, s8, s9, s10, s11, s12, s13⟩ := hW'; go_simp; try rfl)
        simp only [Act.put, List.setIfInBounds_toArray, List.set_cons_zero, List.set_cons_succ]
        refine wpAnyN_take (i := 2) (v := ?_) rfl (by kernel_rfl) (by kernel_rfl) (by kernel_rfl) (by kernel_rfl) (fun _ _ _ h => h) (.inl ⟨by rfl, ?_⟩) HSS.out ?_
        rotate_left
        · (intro W' hW'; obtain ⟨s0, s1, s2, s3, s4, s5, s6, s7, s8, s9, s10, s11, s12, s13⟩ := hW'; go_simp; try rfl)
        simp only [Act.put, List.setIfInBounds_toArray, List.set_cons_zero, List.set_cons_succ]
        refine wpAnyN_take (i := 3) (v := ?_) rfl (by kernel_rfl) (by kernel_rfl) (by kernel_rfl) (by kernel_rfl) (fun _ _ _ h => h) (.inl ⟨by rfl, ?_⟩) HSS.out ?_
        rotate_left
        · (intro W' hW'; obtain ⟨s0, s1, s2, s3, s4, s5, s6, s7, s8, s9, s10, s11, s12, s13⟩ := hW'; go_simp; try rfl)
        simp only [Act.put, List.setIfInBounds_toArray, List.set_cons_zero, List.set_cons_succ]
        refine wpAnyN_take (i := 4) (v := ?_) rfl (by kernel_rfl) (by kernel_rfl) (by kernel_rfl) (by kernel_rfl) (fun _ _ _ h => h) (.inl ⟨by rfl, ?_⟩) HSS.out ?_
        rotate_left
        · (intro W' hW'; obtain ⟨s0, s1, s2, s3, s4, s5, s6, s7, s8, s9, s10, s11, s12, s13⟩ := hW'; go_simp; try rfl)
        simp only [Act.put, List.setIfInBounds_toArray, List.set_cons_zero, List.set_cons_succ]
        refine wpAnyN_take (i := 5) (v := ?_) rfl (by kernel_rfl) (by kernel_rfl) (by kernel_rfl) (by kernel_rfl) (fun _ _ _ h => h) (.inl ⟨by rfl, ?_⟩) HSS.out ?_
        rotate_left
        · (intro W' hW'; obtain ⟨s0, s1, s2, s3, s4, s5, s6, s7, s8, s9, s10, s11, s12, s13⟩ := hW'; go_simp; try rfl)
        simp only [Act.put, List.setIfInBounds_toArray, List.set_cons_zero, List.set_cons_succ]
        refine wpAnyN_take (i := 6) (v := ?_) rfl (by kernel_rfl) (by kernel_rfl) (by kernel_rfl) (by kernel_rfl) (fun _ _ _ h => h) (.inl ⟨by rfl, ?_⟩) HSS.out ?_
        rotate_left
        · (intro W' hW'; obtain ⟨s0, s1, s2, s3, s4, s5, s6, s7, s8, s9, s10, s11, s12, s13⟩ := hW'; go_simp; try rfl)
        simp only [Act.put, List.setIfInBounds_toArray, List.set_cons_zero, List.set_cons_succ]
        refine wpAnyN_take (i := 7) (v := ?_) rfl (by kernel_rfl) (by kernel_rfl) (by kernel_rfl) (by kernel_rfl) (fun _ _ _ h => h) (.inl ⟨by rfl, ?_⟩) HSS.out ?_
        rotate_left
        · (intro W' hW'; obtain ⟨s0, s1, s2, s3, s4, s5, s6, s7, s8, s9, s10, s11, s12, s13⟩ := hW'; go_simp; try rfl)
        simp only [Act.put, List.setIfInBounds_toArray, List.set_cons_zero, List.set_cons_succ]
        refine wpAnyN_take (i := 8) (v := ?_) rfl (by kernel_rfl) (by kernel_rfl) (by kernel_rfl) (by kernel_rfl) (fun _ _ _ h => h) (.inl ⟨by rfl, ?_⟩) HSS.out ?_
        rotate_left
        · (intro W' hW'; obtain ⟨s0, s1, s2, s3, s4, s5, s6, s7, s8, s9, s10, s11, s12, s13⟩ := hW'; go_simp; try rfl)
        simp only [Act.put, List.setIfInBounds_toArray, List.set_cons_zero, List.set_cons_succ]
        refine wpAnyN_take (i := 9) (v := ?_) rfl (by kernel_rfl) (by kernel_rfl) (by kernel_rfl) (by kernel_rfl) (fun _ _ _ h => h) (.inl ⟨by rfl, ?_⟩) HSS.out ?_
        rotate_left
        · (intro W' hW'; obtain ⟨s0, s1, s2, s3, s4, s5, s6, s7, s8, s9, s10, s11, s12, s13⟩ := hW'; go_simp; try rfl)
        simp only [Act.put, List.setIfInBounds_toArray, List.set_cons_zero, List.set_cons_succ]
        refine wpAnyN_take (i := 10) (v := ?_) rfl (by kernel_rfl) (by kernel_rfl) (by kernel_rfl) (by kernel_rfl) (fun _ _ _ h => h) (.inl ⟨by rfl, ?_⟩) HSS.out ?_
        rotate_left
        · (intro W' hW'; obtain ⟨s0, s1, s2, s3, s4, s5, s6, s7, s8, s9, s10, s11, s12, s13⟩ := hW'; go_simp; try rfl)
        simp only [Act.put, List.setIfInBounds_toArray, List.set_cons_zero, List.set_cons_succ]
        refine wpAnyN_take (i := 11) (v := ?_) rfl (by kernel_rfl) (by kernel_rfl) (by kernel_rfl) (by kernel_rfl) (fun _ _ _ h => h) (.inl ⟨by rfl, ?_⟩) HSS.out ?_
        rotate_left
        · (intro W' hW'; obtain ⟨s0, s1, s2, s3, s4, s5, s6, s7, s8, s9, s10, s11, s12, s13⟩ := hW'; go_simp; try rfl)
        simp only [Act.put, List.setIfInBounds_toArray, List.set_cons_zero, List.set_cons_succ]
        refine wpAnyN_take (i := 12) (v := ?_) rfl (by kernel_rfl) (by kernel_rfl) (by kernel_rfl) (by kernel_rfl) (fun _ _ _ h => h) (.inl ⟨by rfl, ?_⟩) HSS.out ?_
        rotate_left
        · (intro W' hW'; obtain ⟨s0, s1, s2, s3, s4, s5, s6, s7, s8, s9, s10, s11, s12, s13⟩ := hW'; go_simp; try rfl)
        simp only [Act.put, List.setIfInBounds_toArray, List.set_cons_zero, List.set_cons_succ]
        refine wpAnyN_take (i := 13) (v := ?_) rfl (by kernel_rfl) (by kernel_rfl) (by kernel_rfl) (by kernel_rfl) (fun _ _ _ h => h) (.inl ⟨by rfl, ?_⟩) HSS.out ?_
        rotate_left
        · (intro W' hW'; obtain ⟨s0, s1, s2, s3, s4, s5, s6, s7, s8, s9, s10, s11, s12, s13⟩ := hW'; go_simp; try rfl)
        simp only [Act.put, List.setIfInBounds_toArray, List.set_cons_zero, List.set_cons_succ]
        refine wpAnyN_take (i := 14) (v := ?_) rfl (by kernel_rfl) (by kernel_rfl) (by kernel_rfl) (by kernel_rfl) (fun _ _ _ h => h) (.inl ⟨by rfl, ?_⟩) HSS.out ?_
        rotate_left
        · (intro W' hW'; obtain ⟨s0, s1, s2, s3, s4, s5, s6, s7, s8, s9, s10, s11, s12, s13⟩ := hW'; go_simp; try rfl)
        simp only [Act.put, List.setIfInBounds_toArray, List.set_cons_zero, List.set_cons_succ]
        refine wpAnyN_take (i := 15) (v := ?_) rfl (by kernel_rfl) (by kernel_rfl) (by kernel_rfl) (by kernel_rfl) (fun _ _ _ h => h) (.inl ⟨by rfl, ?_⟩) HSS.out ?_
        rotate_left
        · (intro W' hW'; obtain ⟨s0, s1, s2, s3, s4, s5, s6, s7, s8, s9, s10, s11, s12, s13⟩ := hW'; go_simp; try rfl)
        simp only [Act.put, List.setIfInBounds_toArray, List.set_cons_zero, List.set_cons_succ]
        refine wpAnyN_take (i := 16) (v := ?_) rfl (by kernel_rfl) (by kernel_rfl) (by kernel_rfl) (by kernel_rfl) (fun _ _ _ h => h) (.inl ⟨by rfl, ?_⟩) HSS.out ?_
        rotate_left
        · (intro W' hW'; obtain ⟨s0, s1, s2, s3, s4, s5, s6, s7, s8, s9, s10, s11, s12, s13⟩ := hW'; go_simp; try rfl)
        simp only [Act.put, List.setIfInBounds_toArray, List.set_cons_zero, List.set_cons_succ]
        refine wpAnyN_take (i := 17) (v := ?_) rfl (by kernel_rfl) (by kernel_rfl) (by kernel_rfl) (by kernel_rfl) (fun _ _ _ h => h) (.inl ⟨by rfl, ?_⟩) HSS.out ?_
        rotate_left
        · (intro W' hW'; obtain ⟨s0, s1, s2, s3, s4, s5, s6, s7, s8, s9, s10, s11, s12, s13⟩ := hW'; go_simp; try rfl)
        simp only [Act.put, List.setIfInBounds_toArray, List.set_cons_zero, List.set_cons_succ]
        refine wpAnyN_take (i := 18) (v := ?_) rfl (by kernel_rfl) (by kernel_rfl) (by kernel_rfl) (by kernel_rfl) (fun _ _ _ h => h) (.inl ⟨by rfl, ?_⟩) HSS.out ?_
        rotate_left
        · (intro W' hW'; obtain ⟨s0, s1, s2, s3, s4, s5, s6, s7, s8, s9, s10, s11, s12, s13⟩ := hW'; go_simp; try rfl)
        simp only [Act.put, List.setIfInBounds_toArray, List.set_cons_zero, List.set_cons_succ]
        refine wpAnyN_take (i := 19) (v := ?_) rfl (by kernel_rfl) (by kernel_rfl) (by kernel_rfl) (by kernel_rfl) (fun _ _ _ h => h) (.inl ⟨by rfl, ?_⟩) HSS.out ?_
        rotate_left
        · (intro W' hW'; obtain ⟨s0, s1, s2, s3, s4, s5, s6, s7, s8, s9, s10, s11, s12, s13⟩ := hW'; go_simp; try rfl)
        simp only [Act.put, List.setIfInBounds_toArray, List.set_cons_zero, List.set_cons_succ]
        refine wpAnyN_one (i := 20) rfl (by kernel_rfl) (fun K hK => ?_)
        go_simp
        refine HSM.out.mono ?_
        rintro e Ws ⟨rfl, hbs⟩
        have hbs' : Below Wb.heap.size Wb Ws := (below_drew (Below.refl _ _)).trans hbs
        have HBS := Aside0.mk hbs'
        have HSS2 := Aside0.mk (show _ from (by
          obtain ⟨s0, s1, s2, s3, s4, s5, s6, s7, s8, s9, s10, s11, s12, s13⟩ := HSS.out
          exact And.intro (pw_cell_below hbs' s0) (And.intro (pw_cell_below hbs' s1) (And.intro (pw_cell_below hbs' s2) (And.intro (pw_cell_below hbs' s3) (And.intro (pw_cell_below hbs' s4) (And.intro (pw_cell_below hbs' s5) (And.intro (pw_cell_below hbs' s6) (And.intro (pw_cell_below hbs' s7) (And.intro (pw_cell_below hbs' s8) (And.intro (pw_cell_below hbs' s9) (And.intro (pw_cell_below hbs' s10) (And.intro (pw_cell_below hbs' s11) (And.intro (pw_cell_below hbs' s12) (pw_cell_below hbs' s13)))))))))))))))
        clear hbs hbs'
        refine hK.out _ _ (fun _ => HSS2.out) (fun _ => ?_)
        clear hK K HSS
        refine wpAnyN_take (i := 21) (v := ?_) rfl (by kernel_rfl) (by kernel_rfl) (by kernel_rfl) (by kernel_rfl) (fun _ _ _ h => h) (.inl ⟨by rfl, ?_⟩) HSS2.out ?_
        rotate_left
        · (intro W' hW'; obtain ⟨s0, s1, s2, s3, s4, s5, s6, s7, s8, s9, s10, s11, s12, s13⟩ := hW'; go_simp; try rfl)
        simp only [Act.put, List.setIfInBounds_toArray, List.set_cons_zero, List.set_cons_succ]
        refine wpAnyN_take (i := 22) (v := ?_) rfl (by kernel_rfl) (by kernel_rfl) (by kernel_rfl) (by kernel_rfl) (fun _ _ _ h => h) (.inl ⟨by rfl, ?_⟩) HSS2.out ?_
        rotate_left
        · (intro W' hW'; obtain ⟨s0, s1, s2, s3, s4, s5, s6, s7, s8, s9, s10, s11, s12, s13⟩ := hW'; go_simp; try rfl)
        simp only [Act.put, List.setIfInBounds_toArray, List.set_cons_zero, List.set_cons_succ]
        refine wpAnyN_done (by kernel_rfl) ?_ _
        have hal : al.length ≤ 3000 := by rw [HAL.out, List.length_map]; exact Nat.le_trans (allT_length _) HSZ.out
        have b0 : (i : Int) ≤ 3000 := by omega
        have H13s := Aside0.mk (blk_below H13b.out HBS.out)
        have H12s := Aside0.mk (blk_below H12b.out HBS.out)
        have H5s := Aside0.mk (blk_below HV5b.out HBS.out)
        have n13 := blk_cell H13s.out 0
        have f13 := blk_frozen H13s.out 0
        have l13 := blk_lt H13s.out
        have n12 := blk_cell H12s.out 0
        have n5 := blk_cell H5s.out 0
        have l5 := blk_lt H5s.out
        simp at n13 n12 n5
        have ne12 : Wq.heap.size ≠ Wp.heap.size := by have := blk_lt HQ12.out; omega
        have ne5 : Wq.heap.size ≠ w.heap.size := by have := blk_lt HV5.out; have := HLS.out; omega
        have ne12' := ne12.symm
        have ne5' := ne5.symm
        clear hal i2
        have hend : ∀ Wf : World, Wf = Ws.setCell ⟨Wq.heap.size, 0, none⟩ (.int .i64 ((i : Int) + 1)) → KeepsFrom Wj.heap.size Wb Wf ∧ Kp W9.heap.size Wj.heap.size [] X Wf ∧ (Below W9.heap.size W9 Wf ∧ Wf.heap[Wp.heap.size]? = some (.cells #[.int .i64 1] 3 (0, 0)) ∧ Wf.heap[Wq.heap.size]? = some (.cells #[.int .i64 ((pre ++ [xx]).length : Int)] 3 (0, 0)) ∧ Wj.heap.size + 2 ≤ Wf.heap.size ∧ EX Wf) := by
          rintro Wf rfl
          have hzi := HZI2.out
          refine ⟨keeps_set HBS.out (show Wq.heap.size < Wj.heap.size by omega) _, HKB.out.trans ((Kp.of_below (fun b hb => by cases hb) HLOW.out.size (by omega) HBS.out).trans (Kp.set Ws (p := ⟨Wq.heap.size, 0, none⟩) HLS.out (show Wq.heap.size < Wj.heap.size by omega) _)), (HLOW.out.trans (HBS.out.mono HLOW.out.size)).setCell (show W9.heap.size ≤ Wq.heap.size from HLS.out) _, (Below.heap_setCell _ _ _ _ ne12').trans H12s.out, ?_, by have := HBS.out.size; simp; omega, EXS.out _ _ _ rfl (EXB.out _ _ HBS.out HEXB.out)⟩
          have := blk_set H13s.out 0 (.int .i64 ((i : Int) + 1))
          rw [this, HIL.out]
          simp
        have HEND := Aside0.mk hend
        clear hend hsb
        gi_wp2
        exact HEND.out _ rfl
      · skip
        rintro Wr ⟨n', hn', _, hlow', h12', h13', hD', hex'⟩
        have hal' : al.length = T.all.length := by rw [HAL.out, List.length_map, ← HALL.out, List.length_map]
        rw [HEX.out] at hex'
        have q3 : ((n' : Int) != (al.length : Int)) = false := by
          rcases hn' with h | ⟨h, _⟩
          · rw [h, hal']; simp
          · cases h
        have hV10' := blk_low hlow' HV10.out
        have p12 := blk_cell h12' 0
        have p13 := blk_cell h13' 0
        have p10 := blk_cell hV10' 0
        have lp12 := blk_lt h12'
        simp at p12 p13 p10
        obtain ⟨Wt, hWt⟩ : ∃ Wt, Wt = Wr.alloc (.cells #[.int .i64 2] 3) := ⟨_, rfl⟩
        have hbt : Below Wr.heap.size Wr Wt := by rw [hWt]; exact below_alloc (Below.refl _ _) _
        have h12t : Wt.heap[Wr.heap.size]? = some (.cells #[.int .i64 2] 3 (0, 0)) := by rw [hWt]; exact heap_alloc_new _ _
        have HLT := Aside0.mk (hlow'.trans (hbt.mono hlow'.size))
        have HMJ := Aside0.mk (blk_below_any hD' hbt)
        have HMI := Aside0.mk (blk_below_any hex' hbt)
        have HT12 := Aside0.mk h12t
        have HWT := Aside0.mk hWt
        clear hn' hlow' h12' h13' hD' hex' hal' hV10' hWt hbt h12t
        gi_wp2
        rw [roundsIn_succ]
        rw [← HWT.out]
        have p2 := blk_cell HT12.out 0
        have l2 := blk_lt HT12.out
        simp at p2
        clear p12 p13 p10 lp12 q3
        have hc7 := blk_low HLT.out HV7.out
        have hc9 := blk_low HLT.out HV9.out
        have k0 := blk_cell hc9 0
        have k1 := blk_cell hc9 1
        have k2 := blk_cell hc9 2
        have k3 := blk_cell hc9 3
        have j0 := blk_cell hc7 0
        have j1 := blk_cell hc7 1
        have j2 := blk_cell hc7 2
        have j3 := blk_cell hc7 3
        simp at k0 k1 k2 k3 j0 j1 j2 j3
        have HSK := Aside0.mk (And.intro k0 (And.intro k1 (And.intro k2 (And.intro k3 (And.intro j0 (And.intro j1 (And.intro j2 j3)))))))
        clear hc7 hc9 k0 k1 k2 k3 j0 j1 j2 j3
        gi_wp2
        refine wide_plain (wp_region_noPanic (plain_need [0, 1, 2, 3, 4, 5] (fun W' => W'.cell? ⟨w4.heap.size, 0, none⟩ = some (.int .u8 tk) ∧ W'.cell? ⟨w4.heap.size, 1, none⟩ = some (.int .u8 tw) ∧ W'.cell? ⟨w4.heap.size, 2, none⟩ = some (.int .i64 twd) ∧ W'.cell? ⟨w4.heap.size, 3, none⟩ = some (.slice A4 tl.length c4) ∧ W'.cell? ⟨w2.heap.size, 0, none⟩ = some (.int .u8 tk) ∧ W'.cell? ⟨w2.heap.size, 1, none⟩ = some (.int .u8 tw) ∧ W'.cell? ⟨w2.heap.size, 2, none⟩ = some (.int .i64 twd) ∧ W'.cell? ⟨w2.heap.size, 3, none⟩ = some (.slice A2 tl.length c2)) (by kernel_rfl) ?_))
        refine wpAnyN_take (i := 0) (v := ?_) rfl (by kernel_rfl) (by kernel_rfl) (by kernel_rfl) (by kernel_rfl) (fun _ _ _ h => h) (.inl ⟨by rfl, ?_⟩) HSK.out ?_
        rotate_left
        · (intro W' hW'; obtain ⟨s0, s1, s2, s3, s4, s5, s6, s7⟩ := hW'; go_simp; try rfl)
        simp only [Act.put, List.setIfInBounds_toArray, List.set_cons_zero, List.set_cons_succ]
        refine wpAnyN_take (i := 2) (v := ?_) rfl (by kernel_rfl) (by kernel_rfl) (by kernel_rfl) (by kernel_rfl) (fun _ _ _ h => h) (.inl ⟨by rfl, ?_⟩) HSK.out ?_
        rotate_left
        · (intro W' hW'; obtain ⟨s0, s1, s2, s3, s4, s5, s6, s7⟩ := hW'; go_simp; try rfl)
        simp only [Act.put, List.setIfInBounds_toArray, List.set_cons_zero, List.set_cons_succ]
        refine wpAnyN_one (i := 1) rfl (by kernel_rfl) (fun K hK => ?_)
        go_simp
        refine (tree_Leaves.calls tk tw twd A4 c4 tl _ _ (Kd.C_below (Kd.C_below HVT.out HLT.out) (below_drew (Below.refl _ _))) HC4.out HL.out).mono ?_
        rintro e Wx ⟨vx, rfl, hrx, hbx⟩
        obtain ⟨Ax, cx, ex⟩ := Kd.R_slice hrx
        subst ex
        have hbx' : Below Wt.heap.size Wt Wx := (below_drew (Below.refl _ _)).trans hbx
        obtain ⟨ls, hls⟩ : ∃ ls, ls = leavesS (allT ⟨tk, tw, twd, tl⟩) := ⟨_, rfl⟩
        rw [← hls] at hrx ⊢
        have HLS2 := Aside0.mk hls
        have HRX := Aside0.mk hrx
        have HBX' := Aside0.mk hbx'
        have HSK2 := Aside0.mk (show _ from (by
          obtain ⟨s0, s1, s2, s3, s4, s5, s6, s7⟩ := HSK.out
          exact And.intro (pw_cell_below hbx' s0) (And.intro (pw_cell_below hbx' s1) (And.intro (pw_cell_below hbx' s2) (And.intro (pw_cell_below hbx' s3) (And.intro (pw_cell_below hbx' s4) (And.intro (pw_cell_below hbx' s5) (And.intro (pw_cell_below hbx' s6) (pw_cell_below hbx' s7)))))))))
        clear hrx hbx hbx' hls
        refine hK.out _ _ (fun _ => HSK2.out) (fun _ => ?_)
        clear hK K
        try simp only [Act.put, List.setIfInBounds_toArray, List.set_cons_zero, List.set_cons_succ]
        refine wpAnyN_one (i := 3) rfl (by kernel_rfl) (fun K hK => ?_)
        go_simp
        have hxc := Kd.C_below (Kd.C_below HVC.out HLT.out) HBX'.out
        refine (glossatorref15_Leaves.calls k tk tw twd (fun q => q < Wx.heap.size) A2 c2 tl ls Wx ⟨A2, c2, rfl, HC2.out, Kd.F_mono (Kd.C_F heap26 hxc) (fun q hq => hq)⟩ (by rw [HLS2.out]; exact HL2.out)).mono ?_
        rintro e Wy ⟨vy, rfl, hry, hby⟩
        obtain ⟨Ay, cy, ey⟩ := Kd.N_slice hry
        subst ey
        have HRY := Aside0.mk hry
        have HBY := Aside0.mk hby
        have HSK3 := Aside0.mk (show _ from (by
          obtain ⟨s0, s1, s2, s3, s4, s5, s6, s7⟩ := HSK2.out
          exact And.intro (pw_cell_below hby s0) (And.intro (pw_cell_below hby s1) (And.intro (pw_cell_below hby s2) (And.intro (pw_cell_below hby s3) (And.intro (pw_cell_below hby s4) (And.intro (pw_cell_below hby s5) (And.intro (pw_cell_below hby s6) (pw_cell_below hby s7)))))))))
        clear hxc hry hby
        refine hK.out _ _ (fun _ => HSK3.out) (fun _ => ?_)
        clear hK K
        try simp only [Act.put, List.setIfInBounds_toArray, List.set_cons_zero, List.set_cons_succ]
        refine wpAnyN_take (i := 4) (v := ?_) rfl (by kernel_rfl) (by kernel_rfl) (by kernel_rfl) (by kernel_rfl) (fun _ _ _ h => h) (.inl ⟨by rfl, ?_⟩) HSK3.out ?_
        rotate_left
        · (intro W' hW'; obtain ⟨s0, s1, s2, s3, s4, s5, s6, s7⟩ := hW'; go_simp; try rfl)
        simp only [Act.put, List.setIfInBounds_toArray, List.set_cons_zero, List.set_cons_succ]
        refine wpAnyN_take (i := 5) (v := ?_) rfl (by kernel_rfl) (by kernel_rfl) (by kernel_rfl) (by kernel_rfl) (fun _ _ _ h => h) (.inl ⟨by rfl, ?_⟩) HSK3.out ?_
        rotate_left
        · (intro W' hW'; obtain ⟨s0, s1, s2, s3, s4, s5, s6, s7⟩ := hW'; go_simp; try rfl)
        simp only [Act.put, List.setIfInBounds_toArray, List.set_cons_zero, List.set_cons_succ]
        refine wpAnyN_done (by kernel_rfl) (NoPanic.normal ?_) _
        gi_wp2
        have hls3 : ls.length ≤ 3000 := by
          rw [HLS2.out]
          unfold leavesS
          rw [List.length_map]
          exact Nat.le_trans (List.length_filter_le _ _) (Nat.le_trans (allT_length _) HSZ.out)
        have HL3 := Aside0.mk hls3
        clear HSK HSK2
        gi_loopg [18] ls.length (fun kq v18 w' => ∃ i : Nat, v18 = .int .i64 i ∧ i ≤ ls.length ∧ Aside0 (kq = ls.length - i) ∧ Aside0 (Below Wy.heap.size Wy w'))
        case atStart => exact ⟨0, rfl, Nat.zero_le _, ⟨rfl⟩, ⟨Below.refl _ _⟩⟩
        case round =>
          obtain ⟨i, rfl, hi, HK, HBR⟩ := hrel
          by_cases hlt : i < ls.length
          · obtain ⟨_, _, hcx⟩ := Kd.R_reads' HRX.out
            obtain ⟨_, _, hcy⟩ := Kd.N_reads' HRY.out
            obtain ⟨ax, Ax3, cx3, ex, x0, x1, x2, x3, xl, xC⟩ := at_T26 (Kd.C_below (Kd.C_below hcx HBY.out) HBR.out) (i : Int) (by omega) (by omega)
            obtain ⟨ay, Ay3, cy3, ey, y0, y1, y2, y3, yl, yC⟩ := at_T26 (Kd.C_below hcy HBR.out) (i : Int) (by omega) (by omega)
            rw [Int.toNat_natCast] at x0 x1 x2 x3 y0 y1 y2 y3
            subst ex ey
            obtain ⟨t, hts⟩ : ∃ t, t = rd_T26 ls i := ⟨_, rfl⟩
            rw [← hts] at x0 x1 x2 x3 xl xC y0 y1 y2 y3 yl yC
            have hsm := glossatorref15_Same.calls k t.f0 t.f1 t.f2 Ax3 cx3 t.f3 t.f0 t.f1 t.f2 Ay3 cy3 t.f3 true wr.drew (Kd.C_below xC (below_drew (Below.refl _ _))) xl (Kd.C_below yC (below_drew (Below.refl _ _))) yl (HSL.out t (by rw [← HLS2.out, hts, rd_at26 ls i hlt]; exact List.getElem_mem hlt))
            have HSM := Aside0.mk hsm
            obtain ⟨tk', tw', twd', tks'⟩ := t
            simp only at x0 x1 x2 x3 y0 y1 y2 y3 HSM
            have HST' := Aside0.mk (And.intro x0 (And.intro x1 (And.intro x2 (And.intro x3 (And.intro y0 (And.intro y1 (And.intro y2 y3)))))))
            have i0 : (0 : Int) ≤ (i : Int) := by omega
            have i1 : (i : Int) < (ls.length : Int) := by omega
            have i3 : (i : Int) ≤ 3000 := by omega
            clear hcx hcy hts x0 x1 x2 x3 xl xC y0 y1 y2 y3 yl yC hsm
            gi_wp2
            refine wide_plain (wp_region_noPanic (plain_need [0, 1, 2, 3, 4, 5, 6, 7, 8, 9] (fun W' => W'.cell? (ax.add (i * 4)) = some (.int .u8 tk') ∧ W'.cell? ⟨(ax.add (i * 4)).block, (ax.add (i * 4)).off + 1, none⟩ = some (.int .u8 tw') ∧ W'.cell? ⟨(ax.add (i * 4)).block, (ax.add (i * 4)).off + 2, none⟩ = some (.int .i64 twd') ∧ W'.cell? ⟨(ax.add (i * 4)).block, (ax.add (i * 4)).off + 3, none⟩ = some (.slice Ax3 tks'.length cx3) ∧ W'.cell? (ay.add (i * 4)) = some (.int .u8 tk') ∧ W'.cell? ⟨(ay.add (i * 4)).block, (ay.add (i * 4)).off + 1, none⟩ = some (.int .u8 tw') ∧ W'.cell? ⟨(ay.add (i * 4)).block, (ay.add (i * 4)).off + 2, none⟩ = some (.int .i64 twd') ∧ W'.cell? ⟨(ay.add (i * 4)).block, (ay.add (i * 4)).off + 3, none⟩ = some (.slice Ay3 tks'.length cy3)) (by kernel_rfl) ?_))
            refine wpAnyN_take (i := 0) (v := ?_) rfl (by kernel_rfl) (by kernel_rfl) (by kernel_rfl) (by kernel_rfl) (fun _ _ _ h => h) (.inl ⟨by rfl, ?_⟩) HST'.out ?_
            rotate_left
            · (intro W' hW'; obtain ⟨s0, s1, s2, s3, s4, s5, s6, s7⟩ := hW'; go_simp; try rfl)
            simp only [Act.put, List.setIfInBounds_toArray, List.set_cons_zero, List.set_cons_succ]
            refine wpAnyN_take (i := 1) (v := ?_) rfl (by kernel_rfl) (by kernel_rfl) (by kernel_rfl) (by kernel_rfl) (fun _ _ _ h => h) (.inl ⟨by rfl, ?_⟩) HST'.out ?_
            rotate_left
            · (intro W' hW'; obtain ⟨s0, s1, s2, s3, s4, s5, s6, s7⟩ := hW'; go_simp; try rfl)
            simp only [Act.put, List.setIfInBounds_toArray, List.set_cons_zero, List.set_cons_succ]
            refine wpAnyN_take (i := 2) (v := ?_) rfl (by kernel_rfl) (by kernel_rfl) (by kernel_rfl) (by kernel_rfl) (fun _ _ _ h => h) (.inl ⟨by rfl, ?_⟩) HST'.out ?_
            rotate_left
            · (intro W' hW'; obtain ⟨s0, s1, s2, s3, s4, s5, s6, s7⟩ := hW'; go_simp; try rfl)
            simp only [Act.put, List.setIfInBounds_toArray, List.set_cons_zero, List.set_cons_succ]
            refine wpAnyN_take (i := 3) (v := ?_) rfl (by kernel_rfl) (by kernel_rfl) (by kernel_rfl) (by kernel_rfl) (fun _ _ _ h => h) (.inl ⟨by rfl, ?_⟩) HST'.out ?_
            rotate_left
            · (intro W' hW'; obtain ⟨s0, s1, s2, s3, s4, s5, s6, s7⟩ := hW'; go_simp; try rfl)
            simp only [Act.put, List.setIfInBounds_toArray, List.set_cons_zero, List.set_cons_succ]
            refine wpAnyN_take (i := 4) (v := ?_) rfl (by kernel_rfl) (by kernel_rfl) (by kernel_rfl) (by kernel_rfl) (fun _ _ _ h => h) (.inl ⟨by rfl, ?_⟩) HST'.out ?_
            rotate_left
            · (intro W' hW'; obtain ⟨s0, s1, s2, s3, s4, s5, s6, s7⟩ := hW'; go_simp; try rfl)
            simp only [Act.put, List.setIfInBounds_toArray, List.set_cons_zero, List.set_cons_succ]
            refine wpAnyN_take (i := 5) (v := ?_) rfl (by kernel_rfl) (by kernel_rfl) (by kernel_rfl) (by kernel_rfl) (fun _ _ _ h => h) (.inl ⟨by rfl, ?_⟩) HST'.out ?_
            rotate_left
            · (intro W' hW'; obtain ⟨s0, s1, s2, s3, s4, s5, s6, s7⟩ := hW'; go_simp; try rfl)
            simp only [Act.put, List.setIfInBounds_toArray, List.set_cons_zero, List.set_cons_succ]
            refine wpAnyN_take (i := 6) (v := ?_) rfl (by kernel_rfl) (by kernel_rfl) (by kernel_rfl) (by kernel_rfl) (fun _ _ _ h => h) (.inl ⟨by rfl, ?_⟩) HST'.out ?_
            rotate_left
            · (intro W' hW'; obtain ⟨s0, s1, s2, s3, s4, s5, s6, s7⟩ := hW'; go_simp; try rfl)
            simp only [Act.put, List.setIfInBounds_toArray, List.set_cons_zero, List.set_cons_succ]
            refine wpAnyN_take (i := 7) (v := ?_) rfl (by kernel_rfl) (by kernel_rfl) (by kernel_rfl) (by kernel_rfl) (fun _ _ _ h => h) (.inl ⟨by rfl, ?_⟩) HST'.out ?_
            rotate_left
            · (intro W' hW'; obtain ⟨s0, s1, s2, s3, s4, s5, s6, s7⟩ := hW'; go_simp; try rfl)
            simp only [Act.put, List.setIfInBounds_toArray, List.set_cons_zero, List.set_cons_succ]
            refine wpAnyN_one (i := 8) rfl (by kernel_rfl) (fun K hK => ?_)
            go_simp
            refine HSM.out.mono ?_
            rintro e Wz ⟨rfl, hbz⟩
            have hbz' : Below wr.heap.size wr Wz := (below_drew (Below.refl _ _)).trans hbz
            have HBZ := Aside0.mk (below_step HBR.out hbz')
            have HST2 := Aside0.mk (show _ from (by
          obtain ⟨s0, s1, s2, s3, s4, s5, s6, s7⟩ := HST'.out
          exact And.intro (pw_cell_below hbz' s0) (And.intro (pw_cell_below hbz' s1) (And.intro (pw_cell_below hbz' s2) (And.intro (pw_cell_below hbz' s3) (And.intro (pw_cell_below hbz' s4) (And.intro (pw_cell_below hbz' s5) (And.intro (pw_cell_below hbz' s6) (pw_cell_below hbz' s7)))))))))
            clear hbz hbz'
            refine hK.out _ _ (fun _ => HST2.out) (fun _ => ?_)
            clear hK K
            refine wpAnyN_take (i := 9) (v := ?_) rfl (by kernel_rfl) (by kernel_rfl) (by kernel_rfl) (by kernel_rfl) (fun _ _ _ h => h) (.inl ⟨by rfl, ?_⟩) HST2.out ?_
            rotate_left
            · (intro W' hW'; obtain ⟨s0, s1, s2, s3, s4, s5, s6, s7⟩ := hW'; go_simp; try rfl)
            simp only [Act.put, List.setIfInBounds_toArray, List.set_cons_zero, List.set_cons_succ]
            refine wpAnyN_done (by kernel_rfl) (NoPanic.normal ?_) _
            gi_wp2
            gi_roundg (ls.length - (i + 1))
            case measure => have := HK.out; omega
            case rel => exact ⟨i + 1, by go_num, by omega, ⟨rfl⟩, HBZ⟩
          · obtain rfl : i = ls.length := by omega
            have hn6 : Aside0 (wr.heap[w.heap.size + 1]? = some (.cells #[.bool false] 4 (0, 0))) := ⟨blk_below_any (blk_below_any (blk_below_any (blk_low HLT.out HV6.out) HBX'.out) HBY.out) HBR.out⟩
            have HSK4 := Aside0.mk (show _ from (by
          obtain ⟨s0, s1, s2, s3, s4, s5, s6, s7⟩ := HSK3.out
          exact And.intro (pw_cell_below HBR.out s0) (And.intro (pw_cell_below HBR.out s1) (And.intro (pw_cell_below HBR.out s2) (And.intro (pw_cell_below HBR.out s3) (And.intro (pw_cell_below HBR.out s4) (And.intro (pw_cell_below HBR.out s5) (And.intro (pw_cell_below HBR.out s6) (pw_cell_below HBR.out s7)))))))))
            have HBW := Aside0.mk (below_step (below_step (below_step (below_step HLT.out HBX'.out) HBY.out) HBR.out) (below_drew (Below.refl _ _)))
            have HD1 := Aside0.mk (Kd.C_below HVT.out HBW.out)
            have HD2 := Aside0.mk (Kd.C_below HVC.out HBW.out)
            have HD3 := Aside0.mk (Kd.C_below HR1.out (below_step HB9.out HBW.out))
            gi_wp2
            refine wide_plain (wp_region_noPanic (plain_need [0, 1, 2, 3, 4, 5, 6, 7, 8, 9, 10, 11, 12] (fun W' => W'.cell? ⟨w4.heap.size, 0, none⟩ = some (.int .u8 tk) ∧ W'.cell? ⟨w4.heap.size, 1, none⟩ = some (.int .u8 tw) ∧ W'.cell? ⟨w4.heap.size, 2, none⟩ = some (.int .i64 twd) ∧ W'.cell? ⟨w4.heap.size, 3, none⟩ = some (.slice A4 tl.length c4) ∧ W'.cell? ⟨w2.heap.size, 0, none⟩ = some (.int .u8 tk) ∧ W'.cell? ⟨w2.heap.size, 1, none⟩ = some (.int .u8 tw) ∧ W'.cell? ⟨w2.heap.size, 2, none⟩ = some (.int .i64 twd) ∧ W'.cell? ⟨w2.heap.size, 3, none⟩ = some (.slice A2 tl.length c2)) (by kernel_rfl) ?_))
            refine wpAnyN_take (i := 0) (v := ?_) rfl (by kernel_rfl) (by kernel_rfl) (by kernel_rfl) (by kernel_rfl) (fun _ _ _ h => h) (.inl ⟨by rfl, ?_⟩) HSK4.out ?_
            rotate_left
            · (intro W' hW'; obtain ⟨s0, s1, s2, s3, s4, s5, s6, s7⟩ := hW'; go_simp; try rfl)
            simp only [Act.put, List.setIfInBounds_toArray, List.set_cons_zero, List.set_cons_succ]
            refine wpAnyN_take (i := 1) (v := ?_) rfl (by kernel_rfl) (by kernel_rfl) (by kernel_rfl) (by kernel_rfl) (fun _ _ _ h => h) (.inl ⟨by rfl, ?_⟩) HSK4.out ?_
            rotate_left
            · (intro W' hW'; obtain ⟨s0, s1, s2, s3, s4, s5, s6, s7⟩ := hW'; go_simp; try rfl)
            simp only [Act.put, List.setIfInBounds_toArray, List.set_cons_zero, List.set_cons_succ]
            refine wpAnyN_take (i := 3) (v := ?_) rfl (by kernel_rfl) (by kernel_rfl) (by kernel_rfl) (by kernel_rfl) (fun _ _ _ h => h) (.inl ⟨by rfl, ?_⟩) HSK4.out ?_
            rotate_left
            · (intro W' hW'; obtain ⟨s0, s1, s2, s3, s4, s5, s6, s7⟩ := hW'; go_simp; try rfl)
            simp only [Act.put, List.setIfInBounds_toArray, List.set_cons_zero, List.set_cons_succ]
            refine wpAnyN_take (i := 4) (v := ?_) rfl (by kernel_rfl) (by kernel_rfl) (by kernel_rfl) (by kernel_rfl) (fun _ _ _ h => h) (.inl ⟨by rfl, ?_⟩) HSK4.out ?_
            rotate_left
            · (intro W' hW'; obtain ⟨s0, s1, s2, s3, s4, s5, s6, s7⟩ := hW'; go_simp; try rfl)
            simp only [Act.put, List.setIfInBounds_toArray, List.set_cons_zero, List.set_cons_succ]
            refine wpAnyN_one (i := 2) rfl (by kernel_rfl) (fun K hK => ?_)
            go_simp
            refine (tree_Fits.calls k tk tw twd A4 c4 tl A1 c1 l1 b _ HD1.out HC4.out HD3.out HC1.out HF.out).mono ?_
            rintro e Wa ⟨rfl, hba⟩
            have Hhba := Aside0.mk hba
            have HSK5 := Aside0.mk (show _ from (by
          obtain ⟨s0, s1, s2, s3, s4, s5, s6, s7⟩ := HSK4.out
          exact And.intro (pw_cell_below hba s0) (And.intro (pw_cell_below hba s1) (And.intro (pw_cell_below hba s2) (And.intro (pw_cell_below hba s3) (And.intro (pw_cell_below hba s4) (And.intro (pw_cell_below hba s5) (And.intro (pw_cell_below hba s6) (pw_cell_below hba s7)))))))))
            clear hba
            refine hK.out _ _ (fun _ => HSK5.out) (fun _ => ?_)
            clear hK K
            refine wpAnyN_one (i := 5) rfl (by kernel_rfl) (fun K hK => ?_)
            go_simp
            refine (glossatorref15_Fits.calls k tk tw twd A2 c2 tl A1 c1 l1 b _ (Kd.C_below HD2.out Hhba.out) HC2.out (Kd.C_below HD3.out Hhba.out) HC1.out HF2.out).mono ?_
            rintro e Wb2 ⟨rfl, hbb⟩
            have Hhbb := Aside0.mk hbb
            have HSK6 := Aside0.mk (show _ from (by
          obtain ⟨s0, s1, s2, s3, s4, s5, s6, s7⟩ := HSK5.out
          exact And.intro (pw_cell_below hbb s0) (And.intro (pw_cell_below hbb s1) (And.intro (pw_cell_below hbb s2) (And.intro (pw_cell_below hbb s3) (And.intro (pw_cell_below hbb s4) (And.intro (pw_cell_below hbb s5) (And.intro (pw_cell_below hbb s6) (pw_cell_below hbb s7)))))))))
            clear hbb
            refine hK.out _ _ (fun _ => HSK6.out) (fun _ => ?_)
            clear hK K
            refine wpAnyN_take (i := 6) (v := ?_) rfl (by kernel_rfl) (by kernel_rfl) (by kernel_rfl) (by kernel_rfl) (fun _ _ _ h => h) (.inl ⟨by rfl, ?_⟩) HSK6.out ?_
            rotate_left
            · (intro W' hW'; obtain ⟨s0, s1, s2, s3, s4, s5, s6, s7⟩ := hW'; go_simp; try rfl)
            simp only [Act.put, List.setIfInBounds_toArray, List.set_cons_zero, List.set_cons_succ]
            refine wpAnyN_take (i := 7) (v := ?_) rfl (by kernel_rfl) (by kernel_rfl) (by kernel_rfl) (by kernel_rfl) (fun _ _ _ h => h) (.inl ⟨by rfl, ?_⟩) HSK6.out ?_
            rotate_left
            · (intro W' hW'; obtain ⟨s0, s1, s2, s3, s4, s5, s6, s7⟩ := hW'; go_simp; try rfl)
            simp only [Act.put, List.setIfInBounds_toArray, List.set_cons_zero, List.set_cons_succ]
            refine wpAnyN_take (i := 8) (v := ?_) rfl (by kernel_rfl) (by kernel_rfl) (by kernel_rfl) (by kernel_rfl) (fun _ _ _ h => h) (.inl ⟨by rfl, ?_⟩) HSK6.out ?_
            rotate_left
            · (intro W' hW'; obtain ⟨s0, s1, s2, s3, s4, s5, s6, s7⟩ := hW'; go_simp; try rfl)
            simp only [Act.put, List.setIfInBounds_toArray, List.set_cons_zero, List.set_cons_succ]
            refine wpAnyN_take (i := 9) (v := ?_) rfl (by kernel_rfl) (by kernel_rfl) (by kernel_rfl) (by kernel_rfl) (fun _ _ _ h => h) (.inl ⟨by rfl, ?_⟩) HSK6.out ?_
            rotate_left
            · (intro W' hW'; obtain ⟨s0, s1, s2, s3, s4, s5, s6, s7⟩ := hW'; go_simp; try rfl)
            simp only [Act.put, List.setIfInBounds_toArray, List.set_cons_zero, List.set_cons_succ]
            refine wpAnyN_one (i := 10) rfl (by kernel_rfl) (fun K hK => ?_)
            go_simp
            refine (glossatorref15_Same.calls k tk tw twd A4 c4 tl tk tw twd A2 c2 tl true _ (Kd.C_below (Kd.C_below HD1.out Hhba.out) Hhbb.out) HC4.out (Kd.C_below (Kd.C_below HD2.out Hhba.out) Hhbb.out) HC2.out HST.out).mono ?_
            rintro e Wd ⟨rfl, hbd⟩
            have Hhbd := Aside0.mk hbd
            have HSK7 := Aside0.mk (show _ from (by
          obtain ⟨s0, s1, s2, s3, s4, s5, s6, s7⟩ := HSK6.out
          exact And.intro (pw_cell_below hbd s0) (And.intro (pw_cell_below hbd s1) (And.intro (pw_cell_below hbd s2) (And.intro (pw_cell_below hbd s3) (And.intro (pw_cell_below hbd s4) (And.intro (pw_cell_below hbd s5) (And.intro (pw_cell_below hbd s6) (pw_cell_below hbd s7)))))))))
            clear hbd
            refine hK.out _ _ (fun _ => HSK7.out) (fun _ => ?_)
            clear hK K
            refine wpAnyN_take (i := 11) (v := ?_) rfl (by kernel_rfl) (by kernel_rfl) (by kernel_rfl) (by kernel_rfl) (fun _ _ _ h => h) (.inl ⟨by rfl, ?_⟩) HSK7.out ?_
            rotate_left
            · (intro W' hW'; obtain ⟨s0, s1, s2, s3, s4, s5, s6, s7⟩ := hW'; go_simp; try rfl)
            simp only [Act.put, List.setIfInBounds_toArray, List.set_cons_zero, List.set_cons_succ]
            have hbz := below_step (below_step Hhba.out Hhbb.out) Hhbd.out
            have hz6 := blk_below_any (blk_below_any hn6.out (below_drew (Below.refl _ _))) hbz
            have H6z := Aside0.mk hz6
            have n6 := blk_cell hz6 0
            have f6 := blk_frozen hz6 0
            have l6 := blk_lt hz6
            simp at n6
            have HBZ' := Aside0.mk (below_step HBW.out hbz)
            have HMJz := Aside0.mk (blk_below_any (blk_below_any (blk_below_any (blk_below_any (blk_below_any HMJ.out HBX'.out) HBY.out) HBR.out) (below_drew (Below.refl _ _))) hbz)
            have HMIz := Aside0.mk (blk_below_any (blk_below_any (blk_below_any (blk_below_any (blk_below_any HMI.out HBX'.out) HBY.out) HBR.out) (below_drew (Below.refl _ _))) hbz)
            clear hz6 hbz
            refine wpAnyN_one (i := 12) rfl (by kernel_rfl) (fun K hK => ?_)
            go_simp
            have hv6 := blk_lt HV6.out
            have hwj : W9.heap.size < Wj.heap.size := by have := HLS.out; have := HZI2.out; omega
            have hwi : Wi.heap.size < Wj.heap.size := by have := HWIJ.out; have := HZI2.out; omega
            have hwi9 : W9.heap.size < Wi.heap.size := by have := HZI.out; omega
            have hS7 : ∀ q j u v, q < W9.heap.size → q ≠ w.heap.size + 1 → Wd.cell? ⟨q, j, none⟩ = some v → (Wd.setCell ⟨w.heap.size + 1, 0, none⟩ u).cell? ⟨q, j, none⟩ = some v := fun q j u v _ hq h => (cell_of_heap (Below.heap_setCell _ _ _ _ hq)).trans h
            have hq4 : w4.heap.size ≠ w.heap.size + 1 := fun e => by have h1 := HV9.out; rw [e, HV6.out] at h1; cases h1
            have hq2 : w2.heap.size ≠ w.heap.size + 1 := fun e => by have h1 := HV7.out; rw [e, HV6.out] at h1; cases h1
            refine hK.out _ _ (fun _ => ?_) (fun _ => ?_)
            · obtain ⟨s0, s1, s2, s3, s4, s5, s6, s7⟩ := HSK7.out
              exact ⟨hS7 _ _ _ _ (blk_lt HV9.out) hq4 s0, hS7 _ _ _ _ (blk_lt HV9.out) hq4 s1, hS7 _ _ _ _ (blk_lt HV9.out) hq4 s2, hS7 _ _ _ _ (blk_lt HV9.out) hq4 s3, hS7 _ _ _ _ (blk_lt HV7.out) hq2 s4, hS7 _ _ _ _ (blk_lt HV7.out) hq2 s5, hS7 _ _ _ _ (blk_lt HV7.out) hq2 s6, hS7 _ _ _ _ (blk_lt HV7.out) hq2 s7⟩
            clear hK K
            refine wpAnyN_done (by kernel_rfl) (NoPanic.normal ?_) _
            have hj1 : (Wd.setCell ⟨w.heap.size + 1, 0, none⟩ (.bool true)).heap[Wj.heap.size]? = some (.deferred (some [])) := (Below.heap_setCell _ _ _ _ (by show Wj.heap.size ≠ w.heap.size + 1; omega)).trans HMJz.out
            have hi1 : (Wd.setCell ⟨w.heap.size + 1, 0, none⟩ (.bool true)).heap[Wi.heap.size]? = some (.deferred (some [])) := (Below.heap_setCell _ _ _ _ (by show Wi.heap.size ≠ w.heap.size + 1; omega)).trans HMIz.out
            have hi2 : ((Wd.setCell ⟨w.heap.size + 1, 0, none⟩ (.bool true)).putObj Wj.heap.size (.deferred none)).heap[Wi.heap.size]? = some (.deferred (some [])) := (World.putObj_heap_other (by omega)).trans hi1
            have hr6 : (((Wd.setCell ⟨w.heap.size + 1, 0, none⟩ (.bool true)).putObj Wj.heap.size (.deferred none)).putObj Wi.heap.size (.deferred none)).heap[w.heap.size + 1]? = some (.cells #[.bool true] 4 (0, 0)) := (World.putObj_heap_other (by omega)).trans ((World.putObj_heap_other (by omega)).trans (blk_set H6z.out 0 _))
            have hc6 := blk_cell hr6 0
            have HJ1 := Aside0.mk hj1
            have HI2 := Aside0.mk hi2
            have HC6' := Aside0.mk hc6
            have hbe : Below w.heap.size w (((Wd.setCell ⟨w.heap.size + 1, 0, none⟩ (.bool true)).putObj Wj.heap.size (.deferred none)).putObj Wi.heap.size (.deferred none)) := ((((below_step HB9.out HBZ'.out).setCell (show w.heap.size ≤ w.heap.size + 1 by omega) _).trans (below_putObj _ _ (by omega))).trans (below_putObj _ _ (by omega)))
            have HBE := Aside0.mk hbe
            clear hj1 hi1 hi2 hr6 hc6 hbe n6 f6 l6
            gi_wp2
            refine ⟨by simp, .inl ⟨_, _, rfl, run_takeDeferred HJ1.out, ?_⟩⟩
            refine ⟨by simp, .inl ⟨_, _, rfl, run_takeDeferred HI2.out, ?_⟩⟩
            have hc6 := HC6'.out
            simp at hc6
            refine ⟨.bool true, ?_, rfl, HBE.out⟩
            simp [results, Try.results4, go_sem, hc6]
end
end Go.Proofs.Ytcfeijdcanpflaa.H
