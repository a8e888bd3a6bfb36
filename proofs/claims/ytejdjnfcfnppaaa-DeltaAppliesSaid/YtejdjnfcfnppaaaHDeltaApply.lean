/- The contract of delta.Apply: what it answers is 'delta_Apply.f', for any list and any splices that can be read; what it hands back lies in memory of its own. -/
import Derived.Test.YtejdjnfcfnppaaaHx0
import Derived.StillTailTactics
import Derived.Outline
namespace Go.Proofs.Ytejdjnfcfnppaaa.H
open Go.RowKit Go.Proofs.YtejdjnfcfnppaaaW.PrintWords Go.Proofs.YtejdjnfcfnppaaaW.PrintLast Go.Proofs.YtejdjnfcfnppaaaW.PrintMore

/-- The splices from some place on, 'out' being what is there already, 'at_' where the list stands. -/
def delta_Apply.go (a : List Int) : List S27 → List Int → Int → Option (List Int × Int)
  | [], out, at_ => if out.length + (a.length - at_.toNat) ≤ 17592186044416 then some (out ++ a.drop at_.toNat, 0) else none
  | s :: r, out, at_ =>
    if s.f0 < at_ ∨ s.f0 > (a.length : Int) ∨ s.f1 < 0 ∨ s.f1 > (a.length : Int) - s.f0 then some ([], 240)
    else if out.length + (s.f0 - at_).toNat + s.f2.length ≤ 17592186044416 then delta_Apply.go a r (out ++ (a.take s.f0.toNat).drop at_.toNat ++ s.f2) (s.f0 + s.f1)
    else none
def delta_Apply.f (a : List Int) (l : List S27) : Option (List Int × Int) := delta_Apply.go a l [] 0

/-- A slice of whole numbers of the call's own, or such a one cut so that it ends at its capacity. -/
def Own2 (base : Nat) (W : World) (v : Value) (xs : List Int) : Prop :=
  Kd.R (Kd.int .i64) 3 W base (fun _ => True) v xs ∨ ∃ A c, v = .slice A xs.length xs.length ∧ Kd.R (Kd.int .i64) 3 W base (fun _ => True) (.slice A xs.length c) xs

theorem ownBlock_cut (A : Option Addr) (n c n' c' : Nat) : (Value.slice A n c).ownBlock = (Value.slice A n' c').ownBlock := by cases A <;> rfl
theorem Own2.below {base : Nat} {W W1 : World} {v : Value} {xs : List Int} (h : Own2 base W v xs) (hb : Below W.heap.size W W1) : Own2 base W1 v xs := by
  rcases h with h | ⟨A, c, rfl, h⟩
  · exact .inl (Kd.R_below h hb)
  · exact .inr ⟨A, c, rfl, Kd.R_below h hb⟩
theorem Own2.V {base : Nat} {W : World} {v : Value} {xs : List Int} (h : Own2 base W v xs) : Kd.V (Kd.int .i64) 3 W base (fun k => base ≤ k) v xs := by
  rcases h with h | ⟨A, c, rfl, h⟩
  · exact Kd.R_V (Kd.R_mono (Kd.R_bound h) (fun k hk => hk.2.1))
  · obtain ⟨_, _, hf⟩ := Kd.V_at (Kd.R_V (Kd.R_mono (Kd.R_bound h) (fun k hk => hk.2.1)) (base' := base))
    exact Kd.V_mk (Nat.le_refl _) hf
theorem Own2.lt {base : Nat} {W : World} {v : Value} {xs : List Int} (h : Own2 base W v xs) : ∀ k, v.ownBlock = some k → k < W.heap.size := by
  rcases h with h | ⟨A, c, rfl, h⟩
  · exact Kd.R_lt h
  · exact fun k hk => Kd.R_lt h k ((ownBlock_cut _ _ _ _ _).trans hk)
theorem Own2.drew {base : Nat} {W : World} {v : Value} {xs : List Int} (h : Own2 base W v xs) : Own2 base W.drew v xs := h.below (below_drew (Below.refl _ _))
theorem Own2.cut {base : Nat} {W : World} {A : Option Addr} {n c : Nat} {xs : List Int} (h : Own2 base W (.slice A n c) xs) : Own2 base W (.slice A n n) xs := by
  obtain ⟨rfl, _, hf⟩ := Kd.V_at h.V
  rcases h with h | ⟨A', c', e, h⟩
  · exact .inr ⟨A, c, rfl, h⟩
  · injection e with e1 e2 e3
    subst e1
    exact .inr ⟨A, c', rfl, h⟩
theorem Own2.run_append {P : Program} {w0 W : World} (base : Nat) (t ty : TypeId)
    (ht : P.underlying t = some (.slice 3)) (hinfo : (P.info? 3).map (fun i => (i.zero, i.size, i.bytes)) = some (some (.int .i64 0), 1, 8))
    (v : Value) (xs ys : List Int) (A : Option Addr) (m c : Nat)
    (HO : Own2 base W v xs) (HR : Kd.C (Kd.int .i64) W A m ys) (HB : Below base w0 W) (hbase : base ≤ W.heap.size) (hl : (xs.length + m) * 8 ≤ 140737488355328) :
    ∃ v1 w1, (Builtin.append_ #[t, t] ty #[v, .slice A m c]).run P W = .ok v1 w1 ∧ Own2 base w1 v1 (xs ++ ys) ∧ Below base w0 w1 ∧ W.grownBy w1 v.ownBlock ∧ (v1.ownBlock = v.ownBlock ∨ ∃ b, v1.ownBlock = some b ∧ W.heap.size ≤ b) := by
  obtain ⟨i0, hi, hzz⟩ := Option.map_eq_some_iff.1 hinfo
  simp only [Prod.mk.injEq] at hzz
  obtain ⟨hz0, hz1, hz2⟩ := hzz
  have hm : ys.length = m := HR.1
  have rc : ∀ {A : Option Addr} {n : Nat} {xs : List Int} {ad : Addr}, Kd.C (Kd.int .i64) W A n xs → A = some ad → ∀ j u, (encs (Value.int .i64) xs)[j]? = some u → W.cell? (ad.add j) = some u := by
    intro A n xs ad h hA j u hj
    have hr : ReadsOf (Value.int .i64) (0 : Int) W A n xs := Kd.reads_of_C h
    have hjl : j < xs.length := by
      obtain ⟨hlt, _⟩ := List.getElem?_eq_some_iff.1 hj
      simpa [encs] using hlt
    obtain ⟨ad', e, hc⟩ := hr.2.2 (by rw [← hr.1]; omega)
    rw [hA] at e
    cases e
    rw [hc j (by rw [← hr.1]; omega), ← encs_get (enc := Value.int .i64) (d := (0 : Int)) xs j hjl, hj]
  rcases Nat.eq_zero_or_pos m with h0 | h0
  · subst h0
    obtain rfl : ys = [] := List.eq_nil_of_length_eq_zero hm
    refine ⟨v, W, ?_, by simpa using HO, HB, World.grownBy.refl W _, .inl rfl⟩
    obtain ⟨A', n', c', rfl, hle⟩ : ∃ A' n' c', v = .slice A' n' c' ∧ n' ≤ c' := by
      obtain ⟨A', c', rfl, hle, _⟩ := HO.V
      exact ⟨A', _, c', rfl, hle⟩
    cases A' <;> cases A <;> simp [Builtin.append_, run_underlying ht, sizeOf, typeInfo, hi, Builtin.lenOf, Builtin.firstCells, loadCells, loadCellsFrom, hle, storeCells]
  · obtain ⟨ad, hA⟩ : ∃ ad, A = some ad := by
      obtain ⟨ad, e, _⟩ := HR.2.2 h0
      exact ⟨ad, e⟩
    subst hA
    have hnews := rc HR rfl
    have hone : ∀ u ∈ encs (Value.int .i64) ys, u.oneCell' = true := by
      intro u hu
      obtain ⟨x, _, rfl⟩ := List.mem_map.1 hu
      rfl
    have own : ∀ v, Kd.R (Kd.int .i64) 3 W base (fun _ => True) v xs → ∃ v1 w1, (Builtin.append_ #[t, t] ty #[v, .slice (some ad) m c]).run P W = .ok v1 w1 ∧ Own2 base w1 v1 (xs ++ ys) ∧ Below base w0 w1 ∧ W.grownBy w1 v.ownBlock ∧ (v1.ownBlock = v.ownBlock ∨ ∃ b, v1.ownBlock = some b ∧ W.heap.size ≤ b) := by
      intro v h
      have ho := Kd.own_of_R h
      obtain ⟨v1, w1, hrun, h2, hg, _, hat⟩ := run_append_own_at (P := P) W base t ty 3 i0 (.int .i64 0) 1 8 ht hi hz0 hz1 hz2 rfl (by decide) v xs.length _ ho ad m c (encs (Value.int .i64) ys) (by simp [encs, hm]) hnews hone (by simp only [maxLen]; omega) hl hbase
      refine ⟨v1, w1, hrun, .inl (Kd.R_of_own (h1 := fun _ => rfl) ?_ (fun _ _ => trivial)), HB.grown hg hbase (own_base ho), hg, hat.imp_right (fun h => ⟨_, h, Nat.le_refl _⟩)⟩
      rw [encs_append, List.length_append, hm]
      exact h2
    rcases HO with h | ⟨A', c', rfl, hf⟩
    · exact own v h
    · have hC := (Kd.R_reads' hf).2.2
      cases A' with
      | none =>
        have : xs = [] := by
          rcases Nat.eq_zero_or_pos xs.length with h | h
          · exact List.eq_nil_of_length_eq_zero h
          · obtain ⟨_, e, _⟩ := hC.2.2 h
            cases e
        subst this
        exact own _ (Kd.R_nil _ _ _ _ _)
      | some b =>
        obtain ⟨v1, w1, hrun, h2, hg⟩ := run_append_arg_grows (P := P) W t ty 3 i0 (.int .i64 0) 1 8 ht hi hz0 hz1 hz2 rfl (by decide) b xs.length xs.length (encs (Value.int .i64) xs) (by simp [encs]) (rc hC rfl) ad m c (encs (Value.int .i64) ys) (by simp [encs, hm]) hnews (by omega) (by simp only [maxLen]; omega) hl
        refine ⟨v1, w1, hrun, .inl (Kd.R_of_own (h1 := fun _ => rfl) ?_ (fun _ _ => trivial)), HB.grown hg hbase (fun k hk => by cases hk), ⟨hg.os, hg.tape, hg.output, hg.size, fun k hk _ => hg.block k hk (by simp)⟩, ?_⟩
        · rw [encs_append, List.length_append, hm]
          exact own_weaken h2 hbase
        · cases hv : v1.ownBlock with
          | none =>
            rcases h2.2 with ⟨rfl, h3⟩ | ⟨g, cap, cur, rfl, _⟩
            · omega
            · simp [Value.ownBlock] at hv
          | some k => exact .inr ⟨k, rfl, own_base h2 k hv⟩
section
variable {P : Program} {ops : Array Oper} {rest : List Oper} {o : Oper} {a : Act} {Q : Exit → Act → World → Prop}
/-- append(v, ys...) at the operation. -/
theorem Own2.append {w0 W : World} (base : Nat) (hgd : o.guard = none) (s x : Operand) (t : TypeId)
    (ho : o.op = .call { callee := .builtin .append, args := #[s, x], argTypes := #[t, t] })
    (ht : P.underlying t = some (.slice 3)) (hinfo : (P.info? 3).map (fun i => (i.zero, i.size, i.bytes)) = some (some (.int .i64 0), 1, 8))
    (v : Value) (xs ys : List Int) (A : Option Addr) (m c : Nat) (hs : a.eval s = v) (hx : a.eval x = .slice A m c)
    (HO : Own2 base W v xs) (HR : Kd.C (Kd.int .i64) W A m ys) (HB : Below base w0 W) (hbase : base ≤ W.heap.size) (hl : (xs.length + m) * 8 ≤ 140737488355328)
    (h : ∀ v1 w1, Own2 base w1 v1 (xs ++ ys) → Below base w0 w1 → W.grownBy w1 v.ownBlock → (v1.ownBlock = v.ownBlock ∨ ∃ b, v1.ownBlock = some b ∧ W.heap.size ≤ b) → wpList P ops Q rest (a.put o.dst v1) w1) : wpList P ops Q (o :: rest) a W := by
  obtain ⟨v1, w1, hr1, h1, h2, h3, h4⟩ := Own2.run_append (P := P) base t o.type ht hinfo v xs ys A m c HO HR HB hbase hl
  refine wpList_plain hgd fun K hK => ?_
  unfold Oper.wp execOp
  simp only [ho, resolve, invoke, builtin, Sem.run_bind, Sem.run_pure, Result.andThen_ok, List.map_toArray, List.map_cons, List.map_nil, hs, hx, hr1]
  exact hK _ _ (h v1 w1 h1 h2 h3 h4)
end

set_option maxHeartbeats 1000000 in
set_option maxRecDepth 100000 in
theorem delta_Apply.callsR (A0 : Option Addr) (c0 : Nat) (l0 : List Int) (A1 : Option Addr) (c1 : Nat) (l1 : List S27) (r1 : List Int) (r2 : Int) (w : World) (hr0 : Kd.C (Kd.int .i64) w A0 l0.length l0) (hc0 : l0.length ≤ c0) (hr1 : Kd.C k27 w A1 l1.length l1) (hc1 : l1.length ≤ c1) (h : delta_Apply.f l0 l1 = some (r1, r2)) :
    Calls Try.prog 12 #[.slice A0 l0.length c0, .slice A1 l1.length c1] w fun e w' => ∃ v0_ : Value, e = .returned (.tuple #[v0_, .int .i64 r2]) ∧ Own2 w.heap.size w' v0_ r1 ∧ Below w.heap.size w w' := by
  have HR0 := Aside0.mk hr0
  have HC0 := Aside0.mk hc0
  clear hr0 hc0
  have HR1 := Aside0.mk hr1
  have HC1 := Aside0.mk hc1
  clear hr1 hc1
  have H := Aside0.mk h
  clear h
  have hm0 : l0.length ≤ 9223372036854775807 := HR0.out.2.1
  have hm1 : l1.length ≤ 9223372036854775807 := HR1.out.2.1
  have HB0 := Aside0.mk (Below.refl w.heap.size w)
  obtain ⟨i3, hi3, hz3⟩ := Option.map_eq_some_iff.1 info3
  have hs3 : i3.size = 1 := by simp only [Prod.mk.injEq] at hz3; exact hz3.2.1
  clear hz3
  have hu27 := Try.underlying27
  go_enter Try.func12, Try.ntmps12
  go_wp2
  go_loopg [6, 7, 12] l1.length (fun kq v6 v7 v12 w' => ∃ (i : Nat) (out : List Int) (x : Int), v12 = .int .i64 i ∧ v7 = .int .i64 x ∧ Aside0 (Own2 w.heap.size w' v6 out) ∧ Aside0 (kq = l1.length - i) ∧ i ≤ l1.length ∧ 0 ≤ x ∧ x ≤ (l0.length : Int) ∧ Aside0 (delta_Apply.go l0 (l1.drop i) out x = some (r1, r2)) ∧ Aside0 (Below w.heap.size w w'))
  case atStart => exact ⟨0, [], 0, rfl, rfl, ⟨.inl (Kd.R_nil _ _ _ _ _)⟩, ⟨rfl⟩, Nat.zero_le _, Int.le_refl _, by omega, H, HB0⟩
  case round =>
    clear H
    obtain ⟨i, out, x, rfl, rfl, HO, HK, hi, hx0, hx1, HG, HB⟩ := hrel
    by_cases hlt : i < l1.length
    · obtain ⟨ad, A2, c2, e, g0, g1, g2, gl, gi⟩ := at_T27 HR1.out (i : Int) (by omega) (by omega)
      subst e
      rw [Int.toNat_natCast] at g0 g1 g2
      replace g0 := (HB.out.cell (World.block_lt_of_cell? w _ g0)).trans g0
      replace g1 := (HB.out.cell (World.block_lt_of_cell? w _ g1)).trans g1
      replace g2 := (HB.out.cell (World.block_lt_of_cell? w _ g2)).trans g2
      have GI := Aside0.mk gi
      have GL := Aside0.mk gl
      clear gi gl
      obtain ⟨s, hs⟩ : ∃ s, s = rd_T27 l1 (i : Int) := ⟨_, rfl⟩
      rw [← hs] at g0 g1 g2 GI GL
      have hG : delta_Apply.go l0 (s :: l1.drop (i + 1)) out x = some (r1, r2) := by
        have := HG.out
        rw [List.drop_eq_getElem_cons hlt] at this
        rw [hs]
        simpa [rd_T27, List.getD_eq_getElem?_getD, List.getElem?_eq_getElem hlt] using this
      clear HG hs
      unfold delta_Apply.go at hG
      by_cases t1 : s.f0 < x
      · rw [if_pos (.inl t1)] at hG
        obtain ⟨rfl, rfl⟩ : r1 = [] ∧ r2 = 240 := by simpa [eq_comm] using hG
        clear hG
        have b1 : decide (s.f0 < x) = true := decide_eq_true t1
        clear t1
        go_wp2
        go_ret2
        exact ⟨_, rfl, .inl (Kd.R_nil _ _ _ _ _), below_alloc HB.out _⟩
      have b1 : decide (s.f0 < x) = false := decide_eq_false t1
      by_cases t2 : (l0.length : Int) < s.f0
      · rw [if_pos (.inr (.inl t2))] at hG
        obtain ⟨rfl, rfl⟩ : r1 = [] ∧ r2 = 240 := by simpa [eq_comm] using hG
        clear hG
        have b2 : decide ((l0.length : Int) < s.f0) = true := decide_eq_true t2
        clear t1 t2
        go_wp2
        go_ret2
        exact ⟨_, rfl, .inl (Kd.R_nil _ _ _ _ _), below_alloc HB.out _⟩
      have b2 : decide ((l0.length : Int) < s.f0) = false := decide_eq_false t2
      by_cases t3 : s.f1 < 0
      · rw [if_pos (.inr (.inr (.inl t3)))] at hG
        obtain ⟨rfl, rfl⟩ : r1 = [] ∧ r2 = 240 := by simpa [eq_comm] using hG
        clear hG
        have b3 : decide (s.f1 < 0) = true := decide_eq_true t3
        clear t1 t2 t3
        go_wp2
        go_ret2
        exact ⟨_, rfl, .inl (Kd.R_nil _ _ _ _ _), below_alloc HB.out _⟩
      have b3 : decide (s.f1 < 0) = false := decide_eq_false t3
      have u1 : x ≤ s.f0 := Int.not_lt.1 t1
      have u2 : s.f0 ≤ (l0.length : Int) := Int.not_lt.1 t2
      have u3 : 0 ≤ s.f1 := Int.not_lt.1 t3
      clear t1 t2 t3
      by_cases t4 : (l0.length : Int) - s.f0 < s.f1
      · rw [if_pos (.inr (.inr (.inr t4)))] at hG
        obtain ⟨rfl, rfl⟩ : r1 = [] ∧ r2 = 240 := by simpa [eq_comm] using hG
        clear hG
        have b4 : decide ((l0.length : Int) - s.f0 < s.f1) = true := decide_eq_true t4
        clear t4
        go_wp2
        go_ret2
        exact ⟨_, rfl, .inl (Kd.R_nil _ _ _ _ _), below_alloc HB.out _⟩
      have b4 : decide ((l0.length : Int) - s.f0 < s.f1) = false := decide_eq_false t4
      have u4 : s.f1 ≤ (l0.length : Int) - s.f0 := Int.not_lt.1 t4
      clear t4
      rw [if_neg (by omega)] at hG
      by_cases t5 : out.length + (s.f0 - x).toNat + s.f2.length ≤ 17592186044416
      case neg => rw [if_neg t5] at hG; cases hG
      rw [if_pos t5] at hG
      have HG := Aside0.mk hG
      have T5 := Aside0.mk t5
      clear hG t5
      obtain ⟨A6, c6, rfl, hle6, hf6⟩ := HO.out.V
      obtain ⟨A', hcut, hA', hl'⟩ := print_mid_int (P := Try.prog) (k := .i64) 22 3 Try.underlying22 hi3 hs3 A0 c0 l0 x s.f0 hx0 u1 u2 HC0.out
      obtain ⟨mid, hmid⟩ : ∃ mid, mid = (l0.take s.f0.toNat).drop x.toNat := ⟨_, rfl⟩
      rw [← hmid] at hcut hA' hl'
      have hml : mid.length = (s.f0 - x).toNat := by rw [hmid, List.length_drop, List.length_take]; omega
      have hG2 := HG.out
      rw [← hmid] at hG2
      have T5' := T5.out
      rw [← hml] at T5'
      clear HG T5 hml hmid
      have HG := Aside0.mk hG2
      have T5 := Aside0.mk T5'
      have HA' := Aside0.mk hA'
      clear hA' hl' hG2 T5'
      go_wp2
      obtain ⟨W1, hW1⟩ : ∃ W1, W1 = wr.alloc (.cells #[.int .i64 s.f0, .int .i64 s.f1, .slice A2 s.f2.length c2] 27) := ⟨_, rfl⟩
      rw [← hW1]
      have HB1 := Aside0.mk (show Below w.heap.size w W1 by rw [hW1]; exact below_alloc HB.out _)
      have HO1 := Aside0.mk (show Own2 w.heap.size W1 _ out by rw [hW1]; exact HO.out.below (below_alloc (Below.refl _ _) _))
      have hc0 : W1.cell? ⟨wr.heap.size, 0, none⟩ = some (.int .i64 s.f0) := by rw [hW1]; simp [go_sem]
      have hc1 : W1.cell? ⟨wr.heap.size, 1, none⟩ = some (.int .i64 s.f1) := by rw [hW1]; simp [go_sem]
      have hc2 : W1.cell? ⟨wr.heap.size, 2, none⟩ = some (.slice A2 s.f2.length c2) := by rw [hW1]; simp [go_sem]
      have hlt1 : wr.heap.size < W1.heap.size := by rw [hW1]; simp
      have hblk : W1.heap[wr.heap.size]? = some (.cells #[.int .i64 s.f0, .int .i64 s.f1, .slice A2 s.f2.length c2] 27 (0, 0)) := by rw [hW1]; exact heap_alloc_new wr _
      have HNE := Aside0.mk (show some wr.heap.size ≠ (Value.slice A6 out.length c6).ownBlock from fun h => by have := HO.out.lt _ h.symm; omega)
      clear g0 g1 g2
      clear hW1
      have HBK := Aside0.mk hblk
      clear hblk
      go_still_tail 11, (by kernel_rfl)
      change wpList _ _ _ _ _ W1.drew
      refine Own2.append (w0 := w) w.heap.size rfl (.tmp 47) (.tmp 52) 22 rfl Try.underlying22 info3 (.slice A6 out.length out.length) out mid A' mid.length (c0 - x.toNat) rfl rfl HO1.out.cut.drew (Kd.C_drew (Kd.C_of_reads (HA'.out _ (Kd.reads_of_C (Kd.C_below HR0.out HB1.out))))) HB1.out.drew ?_ ?_ ?_
      · exact HB1.out.size
      · have := T5.out; omega
      intro v1 w1 ho1 hb1 hg1 hat1
      have hbl1 : w1.heap[wr.heap.size]? = some (.cells #[.int .i64 s.f0, .int .i64 s.f1, .slice A2 s.f2.length c2] 27 (0, 0)) :=
        (hg1.block _ hlt1 (by rw [ownBlock_cut _ _ _ out.length c6]; exact HNE.out)).trans HBK.out
      have hd0 : w1.cell? ⟨wr.heap.size, 0, none⟩ = some (.int .i64 s.f0) := blk_cell hbl1 0
      have hd1 : w1.cell? ⟨wr.heap.size, 1, none⟩ = some (.int .i64 s.f1) := blk_cell hbl1 1
      have hd2 : w1.cell? ⟨wr.heap.size, 2, none⟩ = some (.slice A2 s.f2.length c2) := blk_cell hbl1 2
      have HNE1 : some wr.heap.size ≠ v1.ownBlock := by
        rcases hat1 with h | ⟨b, h, hle⟩
        · rw [h, ownBlock_cut _ _ _ out.length c6]; exact HNE.out
        · rw [h]
          intro h
          injection h with h
          have : w1.heap.size = w1.heap.size := rfl
          change W1.heap.size ≤ b at hle
          omega
      have HO2 := Aside0.mk ho1
      have HB2 := Aside0.mk hb1
      have HN2 := Aside0.mk HNE1
      have HL2 := Aside0.mk hbl1
      clear ho1 hb1 hg1 hat1 HNE1 hbl1 hc0 hc1 hc2
      go_wp2_with (first | (at_builtin; refine Own2.append (w0 := w) w.heap.size rfl (.tmp 54) (.tmp 56) 22 rfl Try.underlying22 info3 _ (out ++ mid) s.f2 _ _ _ rfl rfl HO2.out (Kd.C_below GI.out HB2.out) HB2.out HB2.out.size ?len ?_; (case len => rw [List.length_append]; have := T5.out; omega); intro v3 w3 ho3 hb3 hg3 hat3; have hbl3 := (hg3.block _ (blk_lt HL2.out) HN2.out).trans HL2.out; have he0 : w3.cell? ⟨wr.heap.size, 0, none⟩ = some (.int .i64 s.f0) := blk_cell hbl3 0; have he1 : w3.cell? ⟨wr.heap.size, 1, none⟩ = some (.int .i64 s.f1) := blk_cell hbl3 1; have HO3 := Aside0.mk ho3; have HB3 := Aside0.mk hb3; clear ho3 hb3 hg3 hat3 hbl3))
      go_roundg (l1.length - (i + 1))
      case measure => have := HK.out; omega
      case rel => exact ⟨i + 1, _, _, by go_num, rfl, HO3, ⟨rfl⟩, by omega, by omega, by omega, HG, HB3⟩
    · obtain rfl : i = l1.length := by omega
      rw [List.drop_length] at HG
      have hG := HG.out
      clear HG
      unfold delta_Apply.go at hG
      by_cases t5 : out.length + (l0.length - x.toNat) ≤ 17592186044416
      case neg => rw [if_neg t5] at hG; cases hG
      rw [if_pos t5] at hG
      obtain ⟨e1, rfl⟩ : r1 = out ++ l0.drop x.toNat ∧ r2 = 0 := by simpa [eq_comm] using hG
      clear hG
      obtain ⟨A6, c6, rfl, hle6, hf6⟩ := HO.out.V
      obtain ⟨A', hcut, hA', hl'⟩ := print_cut_int (P := Try.prog) (k := .i64) 22 3 Try.underlying22 hi3 hs3 A0 c0 l0 x hx0 hx1 HC0.out
      obtain ⟨mid, hmid⟩ : ∃ mid, mid = l0.drop x.toNat := ⟨_, rfl⟩
      rw [← hmid] at hcut hA' hl'
      have hml : mid.length = l0.length - x.toNat := by rw [hmid, List.length_drop]
      have T5' := t5
      rw [← hml] at T5'
      rw [← hmid] at e1
      have HE := Aside0.mk e1
      clear t5 hml hmid e1
      have T5 := Aside0.mk T5'
      have HA' := Aside0.mk hA'
      clear hA' hl' T5'
      go_wp2_with (first | (at_builtin; refine Own2.append (w0 := w) w.heap.size rfl (.tmp 64) (.tmp 67) 22 rfl Try.underlying22 info3 _ out mid _ _ _ rfl rfl HO.out (Kd.C_of_reads (HA'.out _ (Kd.reads_of_C (Kd.C_below HR0.out HB.out)))) HB.out HB.out.size ?len ?_; (case len => have := T5.out; omega); intro v3 w3 ho3 hb3 hg3 hat3; have HO3 := Aside0.mk ho3; have HB3 := Aside0.mk hb3; clear ho3 hb3 hg3 hat3))
      go_ret2
      exact ⟨_, rfl, by rw [HE.out]; exact HO3.out, HB3.out⟩
/-- The same, of what is handed back told only how it reads. -/
theorem delta_Apply.calls (A0 : Option Addr) (c0 : Nat) (l0 : List Int) (A1 : Option Addr) (c1 : Nat) (l1 : List S27) (r1 : List Int) (r2 : Int) (w : World) (hr0 : Kd.C (Kd.int .i64) w A0 l0.length l0) (hc0 : l0.length ≤ c0) (hr1 : Kd.C k27 w A1 l1.length l1) (hc1 : l1.length ≤ c1) (h : delta_Apply.f l0 l1 = some (r1, r2)) :
    Calls Try.prog 12 #[.slice A0 l0.length c0, .slice A1 l1.length c1] w fun e w' => ∃ v0_ : Value, e = .returned (.tuple #[v0_, .int .i64 r2]) ∧ Kd.V (Kd.int .i64) 3 w' w.heap.size (fun k_ => w.heap.size ≤ k_) v0_ r1 ∧ Below w.heap.size w w' :=
  (delta_Apply.callsR A0 c0 l0 A1 c1 l1 r1 r2 w hr0 hc0 hr1 hc1 h).mono fun _ _ ⟨v, he, hv, hb⟩ => ⟨v, he, hv.V, hb⟩
end Go.Proofs.Ytejdjnfcfnppaaa.H
