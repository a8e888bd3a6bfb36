/- Texts of this claim, merged. -/
import Derived.Test.YtobgkpnigjfhmaaV4
import Derived.OpenShut
set_option maxRecDepth 100000
set_option maxHeartbeats 8000000
set_option linter.unusedVariables false
set_option linter.unusedSimpArgs false
namespace Go.Proofs.Ytobgkpnigjfhmaa.H
open Go.RowKit Go.Proofs.YtobgkpnigjfhmaaW.PrintWords Go.Proofs.YtobgkpnigjfhmaaW.PrintLast Go.Proofs.YtobgkpnigjfhmaaW.PrintMore
def okB (t : S24) : Bool := (mayN t 1 0).2
theorem right_prog (k w wd : Int) (kids : List S24) : tree_Right.f k w wd kids = some (okB ⟨k, w, wd, kids⟩) := rfl
theorem tsize_pos (t : S24) : 1 ≤ tsize t := by cases t; simp only [tsize]; omega
theorem right_ref (k w wd : Int) (kids : List S24) (hb : byteT ⟨k, w, wd, kids⟩) : Ev (fun n => zbw.f n k w wd kids) (okB ⟨k, w, wd, kids⟩) := by
 obtain ⟨h1, h2⟩ := may_ref ⟨k, w, wd, kids⟩ 1 0 hb q9 q9 q9 q9
 have hs := tsize_pos ⟨k, w, wd, kids⟩; refine Ev.congr (fun n => by unfold zbw.f; rfl) (Ev.bind (f := fun _ t163 => some (decide (t163 > 0))) h1 (Ev.const ?_))
 unfold okB
 cases hm : (mayN ⟨k, w, wd, kids⟩ 1 0).2 with
 | false => simp
 | true =>
  have := (h2 hm).2; rw [if_pos rfl]
  congr 1
  rw [decide_eq_true_eq]; omega
def wsum : List S24 → Int
 | [] => 0
 | t :: r => t.f2 + wsum r
mutual
def goodT : S24 → Prop
 | ⟨k, w, wd, kids⟩ => (0 ≤ wd ∧ wd ≤ 1099511627776) ∧ (k ≤ 50 → kids = []) ∧ (50 < k → wsum kids = wd) ∧ k ≤ 68 ∧ goodL kids
def goodL : List S24 → Prop
 | [] => True
 | t :: r => goodT t ∧ goodL r
end
theorem goodT.w {t : S24} (h : goodT t) : 0 ≤ t.f2 ∧ t.f2 ≤ 1099511627776 := by
 cases t; simp only [goodT] at h; exact h.1
mutual
theorem may_good : ∀ (t : S24) (at_ c : Int), byteT t → 1 ≤ at_ → at_ ≤ 65537 → 0 ≤ c → c ≤ 1048576 → (mayN t at_ c).2 = true → goodT t
 | ⟨k, w, wd, kids⟩, at_, c, hb, ha, ha2, hc, hc2, h => by
  obtain ⟨⟨hk0, _⟩, ⟨hw0, _⟩, hkids⟩ := (by simpa only [byteT] using hb : (0 ≤ k ∧ k ≤ 255) ∧ (0 ≤ w ∧ w ≤ 255) ∧ byteL kids)
  have hcw : wrap64 (c + 1) = c + 1 := wrap_id q9 q9
  simp only [mayN, hcw] at h; by_cases t1 : c + 1 > 1048576
  ·rw [if_pos t1] at h; cases h
  rw [if_neg t1] at h; by_cases t2 : at_ > 65536
  ·rw [if_pos t2] at h; cases h
  rw [if_neg t2] at h; by_cases t3 : k ≤ 50
  ·rw [if_pos t3] at h
   obtain ⟨rfl, h1, h2, _⟩ := leafB_facts h; simp only [goodT, goodL, and_true]; exact ⟨⟨h1, h2⟩, fun _ => trivial, fun h => q9, q9⟩
  rw [if_neg t3] at h; by_cases t4 : k > 68
  ·rw [if_pos t4] at h; cases h
  rw [if_neg t4] at h; by_cases t5 : w = 0
  case neg => rw [if_pos (show w ≠ 0 from t5)] at h; cases h
  rw [if_neg (show ¬ (w ≠ 0) from fun h => h t5)] at h
  by_cases t6 : k = 51 ∧ at_ > 1
  ·rw [if_pos t6] at h; cases h
  rw [if_neg t6] at h
  revert h
  cases hm : mayL kids at_ (c + 1) 0 with
  | mk c' o =>
   cases o with
   | none => intro h; cases h
   | some s =>
    intro h
    simp only [Bool.and_eq_true, decide_eq_true_eq] at h; obtain ⟨g1, g2, g3⟩ := mayL_good kids at_ (c + 1) 0 c' s hkids ha q9 q9 q9 q9 q9 hm
    simp only [goodT]; exact ⟨⟨q9, q9⟩, fun h => absurd h t3, fun _ => q9, q9, g3⟩
theorem mayL_good : ∀ (l : List S24) (at_ c sum c' s : Int), byteL l → 1 ≤ at_ → at_ ≤ 65536 → 0 ≤ c → c ≤ 1048576 → 0 ≤ sum → sum ≤ 1099511627776 * c → mayL l at_ c sum = (c', some s) → s = sum + wsum l ∧ 0 ≤ wsum l ∧ goodL l
 | [], at_, c, sum, c', s, _, _, _, _, _, _, _, h => by
  simp only [mayL, Prod.mk.injEq, Option.some.injEq] at h; simp only [wsum, goodL]; exact ⟨q9, q9, trivial⟩
 | t :: r, at_, c, sum, c', s, hb, ha, ha2, hc, hc2, h0, h1, h => by
  obtain ⟨hbt, hbr⟩ := (by simpa only [byteL] using hb : byteT t ∧ byteL r)
  have haw : wrap64 (at_ + 1) = at_ + 1 := wrap_id q9 q9
  simp only [mayL, haw] at h; obtain ⟨_, m2⟩ := may_ref t (at_ + 1) c hbt q9 q9 hc hc2
  cases hm : mayN t (at_ + 1) c with
  | mk c2 b =>
   rw [hm] at h m2; cases b with
   | false => simp at h
   | true =>
    simp only at h; obtain ⟨k1, k2⟩ := m2 rfl; simp only at k1 k2; have hs := tsize_pos t; have hg := may_good t (at_ + 1) c hbt q9 q9 hc hc2 (by rw [hm])
    have hw := hg.w; rw [wrap_id q9 q9] at h
    obtain ⟨q1, q2, q3⟩ := mayL_good r at_ c2 (sum + t.f2) c' s hbr ha ha2 q9 k1 q9 q9 h
    simp only [wsum, goodL]; exact ⟨q9, q9, hg, q3⟩
end
theorem ok_good (t : S24) (hb : byteT t) (h : okB t = true) : goodT t := may_good t 1 0 hb q9 q9 q9 q9 h
theorem eta24 (t : S24) : (⟨t.f0, t.f1, t.f2, t.f3⟩ : S24) = t := by cases t; rfl
theorem length_lsize (l : List S24) : l.length ≤ lsize l := by
 induction l with
 | nil => simp [lsize]
 | cons t r ih => have := tsize_pos t; simp only [List.length_cons, lsize]; omega
def rowOk (r : S97) : Prop := (0 ≤ r.f1 ∧ r.f1 ≤ 255) ∧ (0 ≤ r.f2 ∧ r.f2 ≤ 255)
mutual
theorem twin_ev : ∀ (t : S24), tsize t ≤ 2000000 → Ev (fun n => zaQ.f n t.f0 t.f1 t.f2 t.f3) (t.f0, t.f1, t.f2, t.f3)
 | ⟨k, w, wd, kids⟩, h => by
  simp only [tsize] at h; by_cases h0 : (kids.length : Int) = 0
  ·obtain rfl : kids = [] := List.eq_nil_of_length_eq_zero q9
   exact Ev.step (f := fun _ => some (k, w, wd, [])) (fun n => by rw [zaQ.f, if_pos h0]) (Ev.now _)
  ·have := twinL_ev kids [] k w wd q9 qf
   rw [List.nil_append] at this; exact Ev.step (fun n => by rw [zaQ.f, if_neg h0]; rfl) this
theorem twinL_ev : ∀ (l p : List S24) (k w wd : Int), lsize l ≤ 2000000 → p.length ≤ 2000000 - lsize l → Ev (fun n => zaQ.l0 n p (p.length : Int) k w wd (p ++ l)) (k, w, wd, p ++ l)
 | [], p, k, w, wd, _, _ => Ev.step (f := fun _ => some (k, w, wd, p ++ [])) (fun n => by rw [zaQ.l0, if_neg qf, List.append_nil]) (Ev.now _)
 | t :: r, p, k, w, wd, h, hp => by
  simp only [lsize] at h hp; have hs := tsize_pos t; have h1 := twin_ev t q9
  have h2 := twinL_ev r (p ++ [t]) k w wd q9 (by simp; omega)
  refine Ev.step (f := fun n => (zaQ.f n t.f0 t.f1 t.f2 t.f3).bind fun bt131 => (if p.length < 3518437208883 then (zaQ.l0 n (p ++ [(⟨bt131.1, bt131.2.1, bt131.2.2.1, bt131.2.2.2⟩ : S24)]) ((p.length : Int) + 1) k w wd (p ++ t :: r)) else none)) (fun n => ?_) (Ev.bind (f := fun n bt131 => if p.length < 3518437208883 then _ else none) h1 ?_)
  ·rw [zaQ.l0, if_pos (by simp; omega), if_pos q9, rd_mid24, wrap_id q9 q9]
  ·simp only [if_pos (show p.length < 3518437208883 by omega), eta24]
   have e : ((p.length + 1 : Nat) : Int) = (p.length : Int) + 1 := by omega
   rw [List.length_append, List.length_singleton, List.append_assoc, List.singleton_append, e] at h2; exact h2
end
theorem cell_of_heap {W W' : World} {b o : Nat} (h : W'.heap[b]? = W.heap[b]?) : W'.cell? ⟨b, o, none⟩ = W.cell? ⟨b, o, none⟩ := by
 unfold World.cell?
 simp only [h]
mutual
def tokT : S24 → Prop
 | ⟨k, w, wd, kids⟩ => (k < 50 → 1 ≤ wd) ∧ (k = 50 → wd = 0) ∧ tokL kids
def tokL : List S24 → Prop
 | [] => True
 | t :: r => t.f0 ≠ 51 ∧ tokT t ∧ tokL r
end
mutual
theorem may_tok : ∀ (t : S24) (at_ c : Int), byteT t → 1 ≤ at_ → at_ ≤ 65537 → 0 ≤ c → c ≤ 1048576 → (mayN t at_ c).2 = true → tokT t ∧ (1 < at_ → t.f0 ≠ 51)
 | ⟨k, w, wd, kids⟩, at_, c, hb, ha, ha2, hc, hc2, h => by
  obtain ⟨⟨hk0, _⟩, ⟨hw0, _⟩, hkids⟩ := (by simpa only [byteT] using hb : (0 ≤ k ∧ k ≤ 255) ∧ (0 ≤ w ∧ w ≤ 255) ∧ byteL kids)
  have hcw : wrap64 (c + 1) = c + 1 := wrap_id q9 q9
  simp only [mayN, hcw] at h; by_cases t1 : c + 1 > 1048576
  ·rw [if_pos t1] at h; cases h
  rw [if_neg t1] at h; by_cases t2 : at_ > 65536
  ·rw [if_pos t2] at h; cases h
  rw [if_neg t2] at h; by_cases t3 : k ≤ 50
  ·rw [if_pos t3] at h
   obtain ⟨rfl, h1, h2, h3, h4, _⟩ := leafB_facts h; simp only [tokT, tokL, and_true]; exact ⟨⟨fun h => (h4 q9).1, h3⟩, fun _ => q9⟩
  rw [if_neg t3] at h; by_cases t4 : k > 68
  ·rw [if_pos t4] at h; cases h
  rw [if_neg t4] at h; by_cases t5 : w = 0
  case neg => rw [if_pos (show w ≠ 0 from t5)] at h; cases h
  rw [if_neg (show ¬ (w ≠ 0) from fun h => h t5)] at h
  by_cases t6 : k = 51 ∧ at_ > 1
  ·rw [if_pos t6] at h; cases h
  rw [if_neg t6] at h
  revert h
  cases hm : mayL kids at_ (c + 1) 0 with
  | mk c' o =>
   cases o with
   | none => intro h; cases h
   | some s =>
    intro h
    have g3 := mayL_tok kids at_ (c + 1) 0 c' s hkids ha q9 q9 q9 hm
    simp only [tokT]; exact ⟨⟨fun h => q9, fun h => q9, g3⟩, fun h1 h2 => t6 ⟨h2, h1⟩⟩
theorem mayL_tok : ∀ (l : List S24) (at_ c sum c' s : Int), byteL l → 1 ≤ at_ → at_ ≤ 65536 → 0 ≤ c → c ≤ 1048576 → mayL l at_ c sum = (c', some s) → tokL l
 | [], at_, c, sum, c', s, _, _, _, _, _, h => trivial
 | t :: r, at_, c, sum, c', s, hb, ha, ha2, hc, hc2, h => by
  obtain ⟨hbt, hbr⟩ := (by simpa only [byteL] using hb : byteT t ∧ byteL r)
  have haw : wrap64 (at_ + 1) = at_ + 1 := wrap_id q9 q9
  simp only [mayL, haw] at h; obtain ⟨_, m2⟩ := may_ref t (at_ + 1) c hbt q9 q9 hc hc2
  cases hm : mayN t (at_ + 1) c with
  | mk c2 b =>
   rw [hm] at h m2; cases b with
   | false => simp at h
   | true =>
    simp only at h; obtain ⟨k1, k2⟩ := m2 rfl; simp only at k1 k2; have hg := may_tok t (at_ + 1) c hbt q9 q9 hc hc2 (by rw [hm])
    have q3 := mayL_tok r at_ c2 (wrap64 (sum + t.f2)) c' s hbr ha ha2 q9 k1 h
    simp only [tokL]; exact ⟨hg.2 q9, hg.1, q3⟩
end
theorem ok_tok (t : S24) (hb : byteT t) (h : okB t = true) : tokT t := (may_tok t 1 0 hb q9 q9 q9 q9 h).1
theorem wpList_append_run {P : Program} {w w' : World} {ops : Array Oper} {rest : List Oper} {o : Oper} {a : Act} {Q : Exit → Act → World → Prop} {v' : Value}
  (hg : o.guard = none) (s x : Operand) (t : TypeId) (hop : o.op = Op.call { callee := Callee.builtin Builtin.append, args := #[s, x], argTypes := #[t, t] })
  (hrun : (Builtin.append_ #[t, t] o.type #[a.eval s, a.eval x]).run P w = .ok v' w') (hK : wpList P ops Q rest (a.put o.dst v') w') : wpList P ops Q (o :: rest) a w := by
 refine wpList_plain hg fun K hK' => ?_
 unfold Oper.wp execOp
 simp only [hop, resolve, invoke, builtin, Sem.run_bind, Sem.run_pure, Result.andThen_ok, List.map_toArray, List.map_cons, List.map_nil, hrun]; exact hK' _ _ hK
theorem zbP (W : World) (o : Obj) : (W.alloc o).heap.size = W.heap.size + 1 := by simp only [World.alloc, Array.size_push]
theorem alloc_at (W : World) (o : Obj) : (W.alloc o).heap[W.heap.size]? = some o := by simp only [World.alloc, Array.getElem?_push_size]
theorem alloc_old (W : World) (o : Obj) {i : Nat} (h : i < W.heap.size) : (W.alloc o).heap[i]? = W.heap[i]? := (Below.alloc (Below.refl _ _) (Nat.le_refl _) o).block i h
theorem alloc3 {W X : World} {o1 o2 o3 : Obj} (h : X = ((W.alloc o1).alloc o2).alloc o3) : X.heap.size = W.heap.size + 3 ∧ Below W.heap.size W X ∧ X.heap[W.heap.size]? = some o1 ∧ X.heap[W.heap.size + 1]? = some o2 ∧ X.heap[W.heap.size + 1 + 1]? = some o3 := by
 subst h; have s1 := zbP W o1; have s2 := zbP (W.alloc o1) o2; have s3 := zbP ((W.alloc o1).alloc o2) o3; refine ⟨q9, ((Below.alloc (Below.refl _ _) (Nat.le_refl _) _).alloc q9 _).alloc q9 _, ?_, ?_, ?_⟩
 ·rw [alloc_old _ _ q9, alloc_old _ _ q9, alloc_at]
 ·rw [alloc_old _ _ q9, ← s1, alloc_at]
 ·rw [← s1, ← s2, alloc_at]
theorem infoNode : (Try.prog.info? 24).map (fun i => (i.zero, i.size, i.bytes)) = some (some (.agg #[.int .u8 0, .int .u8 0, .int .i64 0, .slice none 0 0]), 4, 40) := by kernel_rfl
theorem add16_calls (base : Nat) (ok : Nat → Prop) (k wt wd : Int) (v : Value) (l : List S24) (k' wt' wd' : Int) (v' : Value) (l' : List S24) (W : World) (hN : Kd.N k24 24 W base ok v l) (hbase : base ≤ W.heap.size) (hfresh : ∀ q, W.heap.size ≤ q → ok q)
  (hV : Kd.N k24 24 W base (fun q => ok q ∧ some q ≠ v.ownBlock) v' l') (hw : -9223372036854775808 ≤ wd ∧ wd ≤ 9223372036854775807) (hw' : -9223372036854775808 ≤ wd' ∧ wd' ≤ 9223372036854775807) (hl : l.length ≤ 1000000) :
  Calls Try.prog 45 #[.agg #[.int .u8 k, .int .u8 wt, .int .i64 wd, v], .agg #[.int .u8 k', .int .u8 wt', .int .i64 wd', v']] W fun e w' => ∃ u, e = .returned (.agg #[.int .u8 k, .int .u8 wt, .int .i64 (wrap64 (wd + wd')), u]) ∧ Kd.N k24 24 w' base ok u (l ++ [⟨k', wt', wd', l'⟩]) ∧ W.grownBy w' v.ownBlock ∧ (u.ownBlock = v.ownBlock ∨ ∃ b, u.ownBlock = some b ∧ W.heap.size ≤ b) := by
 obtain ⟨A, c, rfl, hlc, hC⟩ := Kd.zaL hN; obtain ⟨A', c', rfl, hlc', hC'⟩ := Kd.zaL hV; have HN := J hN; have HV := J hV; clear hN hV hC hC'; have hu := Try.underlying24; go_enter Try.func45, Try.ntmps45
 obtain ⟨X, hX⟩ : ∃ X, X = ((W.alloc (.cells #[.int .u8 k, .int .u8 wt, .int .i64 wd, .slice A l.length c] 24)).alloc (.cells #[.int .u8 k', .int .u8 wt', .int .i64 wd', .slice A' l'.length c'] 24)).alloc (.cells #[.int .u8 0, .int .u8 0, .int .i64 0, .slice none 0 0] 24) := ⟨_, rfl⟩; obtain ⟨hs3, hb3, k0, k1, k2⟩ := alloc3 hX; have K0 := J k0; have K1 := J k1; have K2 := J k2; have HS3 := J hs3; have HB3 := J hb3; have c00 := zaf k0 0; have c01 := zaf k0 1; have c02 := zaf k0 2; have c03 := zaf k0 3; have c10 := zaf k1 0; have c11 := zaf k1 1; have c12 := zaf k1 2; have c13 := zaf k1 3; simp at c00 c01 c02 c03 c10 c11 c12 c13; have bl0 := zaN k0; have bl1 := zaN k1; have bl2 := zaN k2; have hgs : (Value.slice A l.length c).ownBlock ≠ some W.heap.size ∧ (Value.slice A l.length c).ownBlock ≠ some (W.heap.size + 1) ∧ (Value.slice A l.length c).ownBlock ≠ some (W.heap.size + 1 + 1) := by
  have := Kd.N_lt HN.out; refine ⟨fun h => ?_, fun h => ?_, fun h => ?_⟩ <;> (have h2 := this _ h; omega)
 have hbY : Below X.heap.size X (X.alloc (.cells #[.int .u8 k', .int .u8 wt', .int .i64 wd', .slice A' l'.length c'] 24)) := Below.alloc (Below.refl _ _) (Nat.le_refl _) _; obtain ⟨ok1, hok1⟩ : ∃ ok1 : Nat → Prop, ok1 = fun q => ok q ∧ (q < W.heap.size ∨ X.heap.size ≤ q) := ⟨_, rfl⟩
 obtain ⟨g, cap, w1, hrun, hgr, hat, hbg, -, hN1⟩ := append_elemN k24 24 22 (X := X) (ok := ok1) (okp := fun q => (ok q ∧ some q ≠ (Value.slice A l.length c).ownBlock) ∧ q < W.heap.size) (Kd.N_below (Kd.N_mono (Kd.N_bound HN.out) (fun q hq => by rw [hok1]; exact ⟨hq.1, .inl hq.2⟩)) hb3) q9 (fun q hq => by rw [hok1]; exact ⟨hfresh q q9, .inr hq⟩) Try.underlying22 infoNode rfl (by show 0 < 4; omega) q9 q9 hbY
  ⟨k', wt', wd', l'⟩ [.int .u8 k', .int .u8 wt', .int .i64 wd', .slice A' l'.length c'] (alloc_at _ _)
  (k24_mkF X _ ⟨k', wt', wd', l'⟩ (A3 := A') (c3 := c') hlc' (Kd.F_below (Kd.N_F (Kd.N_bound HV.out)) hb3)) (fun q hq => ⟨by rw [hok1]; exact ⟨hq.1.1, .inl hq.2⟩, hq.1.2⟩)
 have hn1 : ∀ i, W.heap.size ≤ i → i ≤ W.heap.size + 1 + 1 → w1.heap[i]? = X.heap[i]? := fun i hi hi2 => hgr.block i q9 (fun h => by
  rcases (show i = W.heap.size ∨ i = W.heap.size + 1 ∨ i = W.heap.size + 1 + 1 by omega) with h' | h' | h' <;> subst h'
  ·exact hgs.1 h.symm
  ·exact hgs.2.1 h.symm
  ·exact hgs.2.2 h.symm)
 have L0 := J ((hn1 _ (Nat.le_refl _) q9).trans k0)
 have L1 := J ((hn1 _ q9 q9).trans k1)
 have L2 := J ((hn1 _ q9 q9).trans k2)
 have HGR := J hgr; have HAT := J hat; have HN1 := J hN1; have HOK1 := J hok1; have d00 := zaf L0.out 0; have d01 := zaf L0.out 1; have d02 := zaf L0.out 2; have d03 := zaf L0.out 3; have d12 := zaf L1.out 2; have f02 := zab L0.out 2; have f03 := zab L0.out 3; have d20 := zaf L2.out 0; have d21 := zaf L2.out 1; have d22 := zaf L2.out 2; have d23 := zaf L2.out 3; have f20 := zab L2.out 0; have f21 := zab L2.out 1; have f22 := zab L2.out 2; have f23 := zab L2.out 3; simp at d00 d01 d02 d03 d12 d20 d21 d22 d23; clear hb3 hs3 k0 k1 k2 hgs hbY hgr hN1 hn1 hat hok1; go_upto_region 1 with (fail)
 rw [← hX]; clear hX; go_wp2_with (at_builtin; refine wpList_append_run rfl _ _ _ rfl hrun ?_)
 have hok2 : ∀ q, ok1 q → q ≠ W.heap.size ∧ q ≠ W.heap.size + 1 + 1 := fun q hq => by
  rw [HOK1.out] at hq; have := HS3.out; have := hq.2; omega
 have hz := Try.underlying24; refine bodyPost_ret (v := .agg #[.int .u8 k, .int .u8 wt, .int .i64 (wrap64 (wd + wd')), .slice (some ⟨g, 0, none⟩) (l.length + 1) cap]) (by simp [results, show Try.f45.results = #[.cell 4 24] from rfl, go_sem, d20, d21, d22, d23]) rfl ⟨_, rfl, ?_, ?_, HAT.out.imp (fun h => h.symm) (fun h => ⟨g, qR, by have := HS3.out; omega⟩)⟩
 ·refine Kd.N_mono (ok := ok1) ?_ (fun q hq => by rw [HOK1.out] at hq; exact hq.1)
  exact Kd.N_far (Kd.N_far (Kd.N_far (Kd.N_far (Kd.N_far (Kd.N_far HN1.out (fun q hq => (hok2 q hq).1) _) (fun q hq => (hok2 q hq).1) _) (fun q hq => (hok2 q hq).2) _) (fun q hq => (hok2 q hq).2) _) (fun q hq => (hok2 q hq).2) _) (fun q hq => (hok2 q hq).2) _
 ·refine ⟨by simp [World.setCell, HGR.out.os, HB3.out.os], by simp [World.setCell, HGR.out.tape, HB3.out.tape], by simp [World.setCell, HGR.out.output, HB3.out.output], ?_, fun q hq hne => ?_⟩
  ·have h1 := HGR.out.size
   have h2 := HB3.out.size; simp only [World.size_setCell]; omega
  ·have h2 := HB3.out.size
   rw [Below.heap_setCell _ _ _ _ qm, Below.heap_setCell _ _ _ _ qm, Below.heap_setCell _ _ _ _ qm, Below.heap_setCell _ _ _ _ qm, Below.heap_setCell _ _ _ _ qm, Below.heap_setCell _ _ _ _ qm]
   exact (HGR.out.block q q9 hne).trans (HB3.out.block q hq)
structure PS (W : World) (g : Nat) (A : Option Addr) (c : Nat) (l : List S40) (a : Nat) : Prop where
 blk : ∃ sk pt : Int, W.heap[g]? = some (.cells #[.slice A l.length c, .int .i64 (a : Int), .slice none 0 0, .int .i64 sk, .int .i64 pt] 68 (0, 0))
 cap : l.length ≤ c
 len : l.length ≤ 3000
 toks : Kd.F k40 W (fun q => q < g) A l.length l
 le : a ≤ l.length
structure Fr (g : Nat) (r : Option Nat) (W W' : World) : Prop where
 os : W'.os = W.os
 tape : W'.tape = W.tape
 output : W'.output = W.output
 size : W.heap.size ≤ W'.heap.size
 block : ∀ q, q < W.heap.size → q ≠ g → some q ≠ r → W'.heap[q]? = W.heap[q]?
theorem Fr.of_below {g : Nat} {r : Option Nat} {W W' : World} (h : Below W.heap.size W W') : Fr g r W W' := ⟨h.os, h.tape, h.output, h.size, fun q hq _ _ => h.block q hq⟩
theorem Fr.zaX {g : Nat} {r : Option Nat} {W W' : World} (h : W.grownBy W' r) : Fr g r W W' := ⟨h.os, h.tape, h.output, h.size, fun q hq _ hr => h.block q hq hr⟩
theorem Fr.refl (g : Nat) (r : Option Nat) (W : World) : Fr g r W W := ⟨rfl, rfl, rfl, Nat.le_refl _, fun _ _ _ _ => rfl⟩
theorem Fr.trans {g : Nat} {r r' : Option Nat} {W W1 W2 : World} (h : Fr g r W W1) (k : Fr g r' W1 W2) (hr : ∀ q, r' = some q → r = some q ∨ W.heap.size ≤ q) : Fr g r W W2 :=
 ⟨k.os.trans h.os, k.tape.trans h.tape, k.output.trans h.output, Nat.le_trans h.size k.size, fun q hq h1 h2 => (k.block q (Nat.lt_of_lt_of_le hq h.size) h1 (fun e => by rcases hr q e.symm with h3 | h3; exact h2 h3.symm; omega)).trans (h.block q hq h1 h2)⟩
theorem PS.keep {W W' : World} {g : Nat} {A : Option Addr} {c : Nat} {l : List S40} {a : Nat} (h : PS W g A c l a) (hk : ∀ q, q ≤ g → W'.heap[q]? = W.heap[q]?) : PS W' g A c l a := by
 obtain ⟨sk, pt, hb⟩ := h.blk; exact ⟨⟨sk, pt, (hk g (Nat.le_refl _)).trans hb⟩, h.cap, h.len, Kd.F_step h.toks (fun q hq _ => hk q (Nat.le_of_lt hq)), h.le⟩
theorem PS.lt {W : World} {g : Nat} {A : Option Addr} {c : Nat} {l : List S40} {a : Nat} (h : PS W g A c l a) : g < W.heap.size := by
 obtain ⟨sk, pt, hb⟩ := h.blk; exact zaN hb
theorem PS.below {W W' : World} {g : Nat} {A : Option Addr} {c : Nat} {l : List S40} {a : Nat} (h : PS W g A c l a) (hb : Below W.heap.size W W') : PS W' g A c l a :=
 h.keep (fun q hq => hb.block q (by have := h.lt; omega))
theorem hand_calls (g : Nat) (A : Option Addr) (c : Nat) (l : List S40) (a : Nat) (W : World) (h : PS W g A c l a) :
  Calls Try.prog 42 #[.pointer (some ⟨g, 0, none⟩)] W fun e w' => e = .returned (.int .i64 (hd l a : Int)) ∧ Below W.heap.size W w' := by
 have hP := J h; obtain ⟨⟨sk, pt, hb⟩, hc, hl, hF, h1⟩ := h; have hdrop : Kd.C k40 W (if c = a then A else Option.map (fun x => x.add (a * 3)) A) (l.drop a).length (l.drop a) := Kd.C_drop (m := a) (Kd.F_now hF) h1 hc
 obtain ⟨AD, hAD⟩ : ∃ AD, AD = (if c = a then A else Option.map (fun x => x.add (a * 3)) A) := ⟨_, rfl⟩
 rw [← hAD] at hdrop; have HAD := J hAD; clear hAD; obtain ⟨K, hK⟩ := next_ev (l.drop a) (by rw [List.length_drop]; omega)
 have HNX := J (hK K (Nat.le_refl _)); have HDR := J hdrop; have HHD := J (show wrap64 ((nx (l.drop a) : Int) + (a : Int)) = (hd l a : Int) by
  have := hd_le h1; have e : hd l a = a + nx (l.drop a) := rfl; rw [zbb q9 q9]
  omega)
 have HB := J hb; clear hK hdrop hF hb; go_enter Try.func42, Try.ntmps42
 go_wp2_with fail
 have HS0 := J (show W.drew.cell? ⟨g, 0, none⟩ = some (.slice A l.length c) ∧ W.drew.cell? ⟨g, 1, none⟩ = some (.int .i64 a) from by
  have c0 := zaf HB.out 0; have c1 := zaf HB.out 1; simp at c0 c1; exact ⟨c0, c1⟩)
 refine wp_region_noPanic (zba [0, 1, 2, 3, 4, 5, 6, 7, 8, 9, 10, 11, 12, 13, 14, 15] (fun W' => W'.cell? ⟨g, 0, none⟩ = some (.slice A l.length c) ∧ W'.cell? ⟨g, 1, none⟩ = some (.int .i64 a)) qb ?_)
 have i0 : ¬ (a : Int) < 0 := by omega
 have i1 : a ≤ c := by omega
 refine zah 0 rfl HS0.out (fun _ h => qo) ?_
 simp only [Act.put, zai]; refine zah 1 rfl HS0.out (fun _ h => qo) ?_
 simp only [Act.put, zai]; refine zah 2 rfl HS0.out (fun _ h => qo) ?_
 simp only [Act.put, zai]; refine zah 3 rfl HS0.out (fun _ h => qo) ?_
 simp only [Act.put, zai]; refine zah 4 rfl HS0.out (fun _ h => qo) ?_
 simp only [Act.put, zai]; refine zah 5 rfl HS0.out (fun _ h => qo) ?_
 simp only [Act.put, zai]; refine zah 6 rfl HS0.out (fun _ h => qo) ?_
 simp only [Act.put, zai]; refine zah 7 rfl HS0.out (fun _ h => qo) ?_
 simp only [Act.put, zai]; refine zah 8 rfl HS0.out (fun _ h => qo) ?_
 simp only [Act.put, zai]; refine zah 10 rfl HS0.out (fun _ h => qo) ?_
 simp only [Act.put, zai]; refine zah 11 rfl HS0.out (fun _ h => qo) ?_
 simp only [Act.put, zai]; refine zah 12 rfl HS0.out (fun _ h => qo) ?_
 simp only [Act.put, zai]; refine zah 13 rfl HS0.out (fun _ h => qo) ?_
 simp only [Act.put, zai]; refine zaI (i := 9) rfl qb (fun K' hK' => ?_)
 go_simp
 rw [← HAD.out]; have hnx := zaR.calls K AD (c - a) (l.drop a) 0 _ W.drew (Kd.za1 HDR.out (Below.refl _ _).drew) (by rw [List.length_drop]; omega) HNX.out
 rw [List.length_drop] at hnx; refine hnx.mono ?_
 rintro e w2 ⟨rfl, hd2⟩
 have HB2 := J (show Below W.heap.size W w2 from (Below.refl _ _).drew.trans hd2.below)
 have HS1 := J (show w2.cell? ⟨g, 0, none⟩ = some (.slice A l.length c) ∧ w2.cell? ⟨g, 1, none⟩ = some (.int .i64 a) from by
  have hb := zaG HB.out HB2.out; have c0 := zaf hb 0; have c1 := zaf hb 1; simp at c0 c1; exact ⟨c0, c1⟩)
 clear hd2 hnx; refine hK'.out _ _ (fun _ => HS1.out) (fun _ => ?_)
 clear hK' K'; try simp only [Act.put, zai]
 refine zah 14 rfl HS1.out (fun _ h => qo) ?_
 simp only [Act.put, zai]; refine zah 15 rfl HS1.out (fun _ h => qo) ?_
 simp only [Act.put, zai]; refine za3 qb (NoPanic.normal ?_) _
 go_wp2
 go_ret
 exact ⟨congrArg (fun z => Ending.returned (Value.int .i64 z)) ((i64_w _).trans HHD.out), HB2.out⟩
theorem za5 (g : Nat) (A : Option Addr) (c : Nat) (l : List S40) (a : Nat) (W : World) (h : PS W g A c l a) :
  Calls Try.prog 21 #[.pointer (some ⟨g, 0, none⟩)] W fun e w' => e = .returned (.int .u8 (cu l a)) ∧ Below W.heap.size W w' := by
 have HP := J h; have HH := J (hand_calls g A c l a W h); have hle := hd_le h.le; have hlen := h.len; clear h; obtain ⟨hh, hhd⟩ : ∃ hh, hh = hd l a := ⟨_, rfl⟩; have HE := J (show cu l a = if hh < l.length then (zbI l (hh : Int)).f0 else 0 by rw [hhd]; rfl)
 rw [← hhd] at HH hle; clear hhd; go_enter Try.func21, Try.ntmps21
 by_cases hlt : hh < l.length
 ·have hne : ¬ hh = l.length := by omega
  go_wp2_with (go_at_call 42; refine HH.out.mono ?_; rintro e w2 ⟨rfl, hb2⟩; have HB2 := J hb2; have hP2 := HP.out.below hb2; obtain ⟨sk, pt, hblk⟩ := hP2.blk; have c0 := zaf hblk 0; obtain ⟨ad, e1, g0, g1, g2⟩ := at_T40 (Kd.F_now hP2.toks) (hh : Int) q9 q9; subst e1; rw [Int.toNat_natCast] at g0 g1 g2; simp at c0; clear hP2 hblk hb2)
  go_ret
  exact ⟨by rw [HE.out, if_pos hlt]; rfl, HB2.out⟩
 ·have hee : hh = l.length := by omega
  subst hee; go_wp2_with (go_at_call 42; refine HH.out.mono ?_; rintro e w2 ⟨rfl, hb2⟩; have HB2 := J hb2; have hP2 := HP.out.below hb2; obtain ⟨sk, pt, hblk⟩ := hP2.blk; have c0 := zaf hblk 0; simp at c0; clear hP2 hblk hb2)
  go_ret
  exact ⟨by rw [HE.out, if_neg hlt]; rfl, HB2.out⟩
mutual
theorem tsize_pos' : ∀ t : S24, 1 ≤ tsize t
 | ⟨k, w, wd, l⟩ => by simp only [tsize]; omega
theorem lsize_len : ∀ l : List S24, l.length ≤ lsize l
 | [] => Nat.zero_le _
 | t :: r => by
  have := lsize_len r; have := tsize_pos' t; simp only [List.length_cons, lsize]; omega
end
theorem lsize_snoc : ∀ (l : List S24) (t : S24), lsize (l ++ [t]) = lsize l + tsize t
 | [], t => by simp [lsize]
 | x :: r, t => by simp only [List.cons_append, lsize, lsize_snoc r t]; omega
theorem byteL_snoc : ∀ (l : List S24) (t : S24), byteL l → byteT t → byteL (l ++ [t])
 | [], t, _, h => by simp only [List.nil_append, byteL]; exact ⟨h, trivial⟩
 | x :: r, t, hl, h => by
  simp only [List.cons_append, byteL] at hl ⊢; exact ⟨hl.1, byteL_snoc r t hl.2 h⟩
structure NV (b : Nat) (ok : Nat → Prop) (W : World) (k w wd : Int) (v : Value) (l : List S24) (N : Nat) : Prop where
 row : Kd.N k24 24 W b ok v l
 kb : 0 ≤ k ∧ k ≤ 255
 wb : 0 ≤ w ∧ w ≤ 255
 lb : byteL l
 wd : -9223372036854775808 ≤ wd ∧ wd ≤ 9223372036854775807
 size : lsize l + 1 ≤ N
theorem NV.leaf {b : Nat} {ok : Nat → Prop} {W : World} {k w wd : Int} {N : Nat} (hk : 0 ≤ k ∧ k ≤ 255) (hw : 0 ≤ w ∧ w ≤ 255) (hwd : -9223372036854775808 ≤ wd ∧ wd ≤ 9223372036854775807) (hN : 1 ≤ N) : NV b ok W k w wd (.slice none 0 0) [] N :=
 ⟨Kd.N_nil _ _ _ _ _, hk, hw, by simp only [byteL], hwd, by simpa [lsize] using hN⟩
theorem NV.step {b : Nat} {ok : Nat → Prop} {W W' : World} {k w wd : Int} {v : Value} {l : List S24} {N : Nat} (h : NV b ok W k w wd v l N) (hm : ∀ q, ok q → q < W.heap.size → W'.heap[q]? = W.heap[q]?) : NV b ok W' k w wd v l N :=
 ⟨Kd.N_step h.row hm, h.kb, h.wb, h.lb, h.wd, h.size⟩
theorem NV.mono {b : Nat} {ok ok' : Nat → Prop} {W : World} {k w wd : Int} {v : Value} {l : List S24} {N : Nat} (h : NV b ok W k w wd v l N) (hm : ∀ q, ok q → ok' q) : NV b ok' W k w wd v l N :=
 ⟨Kd.N_mono h.row hm, h.kb, h.wb, h.lb, h.wd, h.size⟩
theorem NV.bound {b : Nat} {ok : Nat → Prop} {W : World} {k w wd : Int} {v : Value} {l : List S24} {N : Nat} (h : NV b ok W k w wd v l N) : NV b (fun q => ok q ∧ q < W.heap.size) W k w wd v l N :=
 ⟨Kd.N_bound h.row, h.kb, h.wb, h.lb, h.wd, h.size⟩
theorem NV.more {b : Nat} {ok : Nat → Prop} {W : World} {k w wd : Int} {v : Value} {l : List S24} {N N' : Nat} (h : NV b ok W k w wd v l N) (hN : N ≤ N') : NV b ok W k w wd v l N' :=
 ⟨h.row, h.kb, h.wb, h.lb, h.wd, Nat.le_trans h.size hN⟩
def Near (W : World) (r : Option Nat) (u : Value) : Prop := u.ownBlock = r ∨ ∃ q, u.ownBlock = some q ∧ W.heap.size ≤ q
theorem zb0 (b : Nat) (ok : Nat → Prop) (W : World) (k w wd : Int) (v : Value) (l : List S24) (N : Nat) (k' w' wd' : Int) (v' : Value) (l' : List S24) (N' : Nat) (hN : NV b ok W k w wd v l N) (hb : b ≤ W.heap.size) (hf : ∀ q, W.heap.size ≤ q → ok q)
  (hV : NV b (fun q => ok q ∧ some q ≠ v.ownBlock) W k' w' wd' v' l' N') (hs : N + N' ≤ 1000000) :
  Calls Try.prog 45 #[.agg #[.int .u8 k, .int .u8 w, .int .i64 wd, v], .agg #[.int .u8 k', .int .u8 w', .int .i64 wd', v']] W fun e W' => ∃ wd2 u l2, e = .returned (.agg #[.int .u8 k, .int .u8 w, .int .i64 wd2, u]) ∧ NV b ok W' k w wd2 u l2 (N + N') ∧ W.grownBy W' v.ownBlock ∧ Near W v.ownBlock u := by
 have hl := lsize_len l; refine (add16_calls b ok k w wd v l k' w' wd' v' l' W hN.row hb hf hV.row hN.wd hV.wd (by have := hN.size; omega)).mono ?_
 rintro e W' ⟨u, rfl, h1, h2, h3⟩
 refine ⟨_, u, _, rfl, ⟨h1, hN.kb, hN.wb, byteL_snoc _ _ hN.lb (by simp only [byteT]; exact ⟨hV.kb, hV.wb, hV.lb⟩), by unfold wrap64; omega, ?_⟩, h2, h3⟩
 rw [lsize_snoc]; have h4 := hN.size; have h5 := hV.size; simp only [tsize]; omega
def Ext (g : Nat) (A : Option Addr) (c : Nat) (lt : List S40) (b : Nat) (ok : Nat → Prop) (W : World) (k w : Int) (r : Option Nat) (a N : Nat) (e : Ending) (W' : World) : Prop :=
 ∃ (wd : Int) (u : Value) (l : List S24), e = .returned (.agg #[.int .u8 k, .int .u8 w, .int .i64 wd, u]) ∧ PS W' g A c lt a ∧ NV b ok W' k w wd u l N ∧ Fr g r W W' ∧ Near W r u
abbrev putN (X : World) (b : Nat) (k w wd : Int) (v : Value) : World := (((X.setCell ⟨b, 0, none⟩ (.int .u8 k)).setCell ⟨b, 1, none⟩ (.int .u8 w)).setCell ⟨b, 2, none⟩ (.int .i64 wd)).setCell ⟨b, 3, none⟩ v
abbrev nodeO (k w wd : Int) (v : Value) : Obj := .cells #[.int .u8 k, .int .u8 w, .int .i64 wd, v] 24
section
variable {X : World} {b : Nat} {k w wd : Int} {v : Value}
theorem zbF {q : Nat} (h : q ≠ b) : (putN X b k w wd v).heap[q]? = X.heap[q]? := by
 unfold putN
 rw [Below.heap_setCell _ _ _ _ h, Below.heap_setCell _ _ _ _ h, Below.heap_setCell _ _ _ _ h, Below.heap_setCell _ _ _ _ h]
theorem putN_size : (putN X b k w wd v).heap.size = X.heap.size := by simp [putN]
theorem za7 {z0 z1 z2 z3 : Value} (h : X.heap[b]? = some (.cells #[z0, z1, z2, z3] 24 (0, 0))) : (putN X b k w wd v).heap[b]? = some (nodeO k w wd v) := by
 have h1 := zbe h 0 (.int .u8 k); have h2 := zbe h1 1 (.int .u8 w); have h3 := zbe h2 2 (.int .i64 wd); have h4 := zbe h3 3 v
 simpa [putN] using h4
theorem putN_fr {g : Nat} {r : Option Nat} {W : World} (h : Fr g r W X) (hb : W.heap.size ≤ b) : Fr g r W (putN X b k w wd v) :=
 ⟨by simp [putN, World.setCell, h.os], by simp [putN, World.setCell, h.tape], by simp [putN, World.setCell, h.output], by rw [putN_size]; exact h.size, fun q hq h1 h2 => (zbF q9).trans (h.block q hq h1 h2)⟩
end
theorem alloc2 {W X : World} {o1 o2 : Obj} (h : X = (W.alloc o1).alloc o2) : X.heap.size = W.heap.size + 2 ∧ Below W.heap.size W X ∧ X.heap[W.heap.size]? = some o1 ∧ X.heap[W.heap.size + 1]? = some o2 := by
 subst h; have s1 := zbP W o1; have s2 := zbP (W.alloc o1) o2; refine ⟨q9, (Below.alloc (Below.refl _ _) (Nat.le_refl _) _).alloc q9 _, ?_, ?_⟩
 ·rw [alloc_old _ _ q9, alloc_at]
 ·rw [← s1, alloc_at]
def okm (ok : Nat → Prop) (W : World) (m : Nat) (q : Nat) : Prop := ok q ∧ (q < W.heap.size ∨ W.heap.size + m ≤ q)
theorem NV.enter {b : Nat} {ok : Nat → Prop} {W X : World} {k w wd : Int} {v : Value} {l : List S24} {N : Nat} (m : Nat) (h : NV b ok W k w wd v l N) (hb : Below W.heap.size W X) : NV b (okm ok W m) X k w wd v l N :=
 (h.bound.mono (ok' := okm ok W m) (fun q hq => ⟨hq.1, .inl hq.2⟩)).step (fun q hq hl => by
  rcases hq.2 with h1 | h1
  ·exact hb.block q h1
  ·exact hb.block q hl)
theorem Ext.done {g : Nat} {A : Option Addr} {c : Nat} {lt : List S40} {b : Nat} {ok : Nat → Prop} {W : World} {k w wd : Int} {r : Option Nat} {a N : Nat} {X : World} {u : Value} {l : List S24} {m rx : Nat} (hP : PS X g A c lt a) (hN : NV b (okm ok W m) X k w wd u l N) (hF : Fr g r W X) (hR : Near W r u) (hrx : W.heap.size ≤ rx) (hrm : rx < W.heap.size + m) (hgW : g < W.heap.size) :
  Ext g A c lt b ok W k w r a N (.returned (.agg #[.int .u8 k, .int .u8 w, .int .i64 wd, u])) (putN X rx k w wd u) :=
 ⟨wd, u, l, rfl, hP.keep (fun q hq => zbF q9), (hN.step (fun q hq _ => zbF (by have := hq.2; omega))).mono (fun q hq => hq.1), putN_fr hF hrx, hR⟩
theorem zbW (g : Nat) (A : Option Addr) (c : Nat) (lt : List S40) (a : Nat) (b : Nat) (ok : Nat → Prop) (W : World) (k w wd : Int) (v : Value) (l : List S24) (N : Nat) (kd : Int) (hkd : 0 ≤ kd ∧ kd ≤ 255) (hP : PS W g A c lt a) (hN : NV b ok W k w wd v l N) (hb : b ≤ W.heap.size) (hg : ∀ q, ok q → g < q) (hf : ∀ q, W.heap.size ≤ q → ok q) (hs : N + 1 ≤ 1000000) :
  Calls Try.prog 72 #[.agg #[.int .u8 k, .int .u8 w, .int .i64 wd, v], .int .u8 kd] W (Ext g A c lt b ok W k w v.ownBlock a (N + 1)) := by
 obtain ⟨AA, cc, rfl, hlc, hC⟩ := Kd.zaL hN.row; have HN := J hN; have HP := J hP; have HF := J hf; have HG := J hg; clear hN hP hf hg hC; have hu := Try.underlying24; go_enter Try.func72, Try.ntmps72
 go_upto_region 1 with (fail)
 obtain ⟨X, hX⟩ : ∃ X, X = (W.alloc (nodeO k w wd (.slice AA l.length cc))).alloc (nodeO 0 0 0 (.slice none 0 0)) := ⟨_, rfl⟩; obtain ⟨hs2, hb2, k0, k1⟩ := alloc2 hX; have HS := J hs2; have HB := J hb2; have K0 := J k0; have K1 := J k1; have c0 := zaf k0 0; have c1 := zaf k0 1; have c2 := zaf k0 2; have c3 := zaf k0 3; simp at c0 c1 c2 c3; clear hs2 hb2 k0 k1; change Code.wp Try.prog _ _ _ ((W.alloc (nodeO k w wd (.slice AA l.length cc))).alloc (nodeO 0 0 0 (.slice none 0 0)))
 rw [← hX]; clear hX; have HN1 := J (HN.out.enter 2 HB.out); have hva : ∀ q, (Value.slice AA l.length cc).ownBlock = some q → q < W.heap.size := fun q hq => Kd.N_lt HN.out.row q hq
 have HVA := J hva; have HVB := J (show ∀ q, (Value.slice AA l.length cc).ownBlock = some q → g < q from fun q hq => HG.out q (HN.out.row.1 q hq))
 clear hva; go_wp2_with (go_at_call 45; refine (zb0 b (okm ok W 2) _ k w wd _ l N 50 kd 0 (.slice none 0 0) [] 1 HN1.out (by have := HS.out; omega) (fun q hq => ⟨HF.out q (by have := HS.out; omega), .inr (by have := HS.out; omega)⟩) (NV.leaf q9 hkd q9 (Nat.le_refl _)) hs).mono ?_; rintro e w2 ⟨wd2, u, l2, rfl, h1, h2, h3⟩; obtain ⟨A2, c2', rfl, _, _⟩ := Kd.zaL h1.row; have H1 := J h1; have H2 := J h2; have H3 := J h3; have r0 := (h2.block (W.heap.size + 1) (by have := HS.out; omega) (fun e => by have := HVA.out _ e.symm; omega)).trans K1.out; have HR0 := J r0; have f0 := zab r0 0; have f1 := zab r0 1; have f2 := zab r0 2; have f3 := zab r0 3; have d0 := zaf r0 0; have d1 := zaf r0 1; have d2 := zaf r0 2; have d3 := zaf r0 3; have dl := zaN r0; simp at d0 d1 d2 d3; clear h1 h2 h3 r0 c0 c1 c2 c3)
 have hgl := HP.out.lt; refine bodyPost_ret (zaM (r := .cell 4 24) rfl (.cell (W.heap.size + 1) 24 _ (0, 0) _ rfl (za7 HR0.out) Try.underlying24 rfl qb .nil)) rfl ?_
 exact Ext.done (m := 2) ((HP.out.below HB.out).keep (fun q hq => H2.out.block q (by have := HS.out; omega) (fun e => by have := HVB.out _ e.symm; omega))) H1.out (Fr.trans (Fr.of_below HB.out) (Fr.zaX H2.out) (fun q hq => .inl hq)) (by rcases H3.out with h | ⟨q, h, hq⟩; exact .inl h; exact .inr ⟨q, h, by have := HS.out; omega⟩) q9 q9 hgl
structure ST (g : Nat) (A : Option Addr) (c : Nat) (lt : List S40) (b : Nat) (ok : Nat → Prop) (W X0 : World) (m : Nat) (r : Option Nat) (bx : Nat) (X : World) (k w wd : Int) (v : Value) (l : List S24) (N a : Nat) : Prop where
 ps : PS X g A c lt a
 box : X.heap[bx]? = some (nodeO k w wd v)
 nv : NV b (okm ok W m) X k w wd v l N
 fr : Fr g r W X
 near : Near W r v
 sz : W.heap.size + m ≤ X.heap.size
 keep : ∀ q, W.heap.size ≤ q → q < W.heap.size + m → q ≠ bx → X.heap[q]? = X0.heap[q]?
section
variable {g : Nat} {A : Option Addr} {c : Nat} {lt : List S40} {b : Nat} {ok : Nat → Prop} {W X0 : World} {m : Nat} {r : Option Nat} {bx : Nat} {X : World} {k w wd : Int} {v : Value} {l : List S24} {N a : Nat}
theorem ST.below {Y : World} (h : ST g A c lt b ok W X0 m r bx X k w wd v l N a) (hb : Below X.heap.size X Y) : ST g A c lt b ok W X0 m r bx Y k w wd v l N a :=
 ⟨h.ps.below hb, zaG h.box hb, h.nv.step (fun q _ hq => hb.block q hq), h.fr.trans (r' := none) (Fr.of_below hb) (fun q hq => by cases hq), h.near, Nat.le_trans h.sz hb.size, fun q h1 h2 h3 => (hb.block q (by have := h.sz; omega)).trans (h.keep q h1 h2 h3)⟩
theorem ST.row (h : ST g A c lt b ok W X0 m r bx X k w wd v l N a) {q : Nat} (h1 : W.heap.size ≤ q) (h2 : q < W.heap.size + m) : some q ≠ v.ownBlock := fun e => by
 have := (h.nv.row.1 q e.symm).2; omega
theorem ST.var {w2 : World} {q : Nat} (h : ST g A c lt b ok W X0 m r bx X k w wd v l N a) (hgW : g < W.heap.size) (hF : Fr g v.ownBlock X w2) (h1 : W.heap.size ≤ q) (h2 : q < W.heap.size + m) : w2.heap[q]? = X.heap[q]? :=
 hF.block q (by have := h.sz; omega) q9 (h.row h1 h2)
theorem ST.put {w2 : World} {wd2 : Int} {u : Value} {l2 : List S24} {N2 a2 : Nat} (h : ST g A c lt b ok W X0 m r bx X k w wd v l N a) (hgW : g < W.heap.size) (h1 : W.heap.size ≤ bx) (h2 : bx < W.heap.size + m) (hP : PS w2 g A c lt a2) (hN : NV b (okm ok W m) w2 k w wd2 u l2 N2) (hF : Fr g v.ownBlock X w2) (hu : Near X v.ownBlock u) :
  ST g A c lt b ok W X0 m r bx (putN w2 bx k w wd2 u) k w wd2 u l2 N2 a2 := by
 have hs := h.sz; have ho : ∀ q, W.heap.size ≤ q → q < W.heap.size + m → w2.heap[q]? = X.heap[q]? := fun q h1 h2 => hF.block q q9 q9 (h.row h1 h2)
 have hr : ∀ q, v.ownBlock = some q → r = some q ∨ W.heap.size ≤ q := fun q hq => by
  rcases h.near with e | ⟨q', e, h'⟩
  ·exact .inl (by rw [← e, hq])
  ·rw [hq] at e; injection e with e; exact .inr q9
 refine ⟨hP.keep (fun q hq => zbF q9), za7 ((ho bx h1 h2).trans h.box), hN.step (fun q hq _ => zbF (by have := hq.2; omega)), putN_fr (h.fr.trans hF hr) h1, ?_, by rw [putN_size]; exact Nat.le_trans hs hF.size, fun q h3 h4 h5 => (zbF h5).trans ((ho q h3 h4).trans (h.keep q h3 h4 h5))⟩
 rcases hu with e | ⟨q, e, hq⟩
 ·rcases h.near with e2 | ⟨q, e2, hq⟩
  ·exact .inl (e.trans e2)
  ·exact .inr ⟨q, e.trans e2, hq⟩
 ·exact .inr ⟨q, e, q9⟩
theorem ST.ret {w2 : World} {wd2 : Int} {u : Value} {l2 : List S24} {N2 a2 rx : Nat} (h : ST g A c lt b ok W X0 m r bx X k w wd v l N a) (hgW : g < W.heap.size) (h1 : W.heap.size ≤ rx) (h2 : rx < W.heap.size + m) (hP : PS w2 g A c lt a2) (hN : NV b (okm ok W m) w2 k w wd2 u l2 N2) (hF : Fr g v.ownBlock X w2) (hu : Near X v.ownBlock u) :
  Ext g A c lt b ok W k w r a2 N2 (.returned (.agg #[.int .u8 k, .int .u8 w, .int .i64 wd2, u])) (putN w2 rx k w wd2 u) := by
 have hs := h.sz; have hr : ∀ q, v.ownBlock = some q → r = some q ∨ W.heap.size ≤ q := fun q hq => by
  rcases h.near with e | ⟨q', e, h'⟩
  ·exact .inl (by rw [← e, hq])
  ·rw [hq] at e; injection e with e; exact .inr q9
 refine Ext.done hP hN (h.fr.trans hF hr) ?_ h1 h2 hgW
 rcases hu with e | ⟨q, e, hq⟩
 ·rcases h.near with e2 | ⟨q, e2, hq⟩
  ·exact .inl (e.trans e2)
  ·exact .inr ⟨q, e.trans e2, hq⟩
 ·exact .inr ⟨q, e, q9⟩
theorem ST.at_ {a2 : Nat} (h : ST g A c lt b ok W X0 m r bx X k w wd v l N a) (hgW : g < W.heap.size) (hg : ∀ q, ok q → g < q) (hbx : g < bx) (ha : a2 ≤ lt.length) : ST g A c lt b ok W X0 m r bx (X.setCell ⟨g, 1, none⟩ (.int .i64 (a2 : Int))) k w wd v l N a2 := by
 have ho : ∀ q, q ≠ g → (X.setCell ⟨g, 1, none⟩ (.int .i64 (a2 : Int))).heap[q]? = X.heap[q]? := fun q hq => Below.heap_setCell _ _ _ _ hq
 obtain ⟨sk, pt, hblk⟩ := h.ps.blk; refine ⟨⟨⟨sk, pt, by simpa using zbe hblk 1 (.int .i64 (a2 : Int))⟩, h.ps.cap, h.ps.len, Kd.F_step h.ps.toks (fun q hq _ => ho q q9), ha⟩, (ho bx q9).trans h.box, h.nv.step (fun q hq _ => ho q (by have := hg q hq.1; omega)), ?_, h.near, by simpa using h.sz, fun q h1 h2 h3 => (ho q q9).trans (h.keep q h1 h2 h3)⟩
 exact ⟨by simp [World.setCell, h.fr.os], by simp [World.setCell, h.fr.tape], by simp [World.setCell, h.fr.output], by simpa using h.fr.size, fun q hq h1 h2 => (ho q h1).trans (h.fr.block q hq h1 h2)⟩
theorem ST.asked (z : Int) (h : ST g A c lt b ok W X0 m r bx X k w wd v l N a) (hgW : g < W.heap.size) (hg : ∀ q, ok q → g < q) (hbx : g < bx) : ST g A c lt b ok W X0 m r bx (X.setCell ⟨g, 3, none⟩ (.int .i64 z)) k w wd v l N a := by
 have ho : ∀ q, q ≠ g → (X.setCell ⟨g, 3, none⟩ (.int .i64 z)).heap[q]? = X.heap[q]? := fun q hq => Below.heap_setCell _ _ _ _ hq
 obtain ⟨sk, pt, hblk⟩ := h.ps.blk; refine ⟨⟨⟨z, pt, by simpa using zbe hblk 3 (.int .i64 z)⟩, h.ps.cap, h.ps.len, Kd.F_step h.ps.toks (fun q hq _ => ho q q9), h.ps.le⟩, (ho bx q9).trans h.box, h.nv.step (fun q hq _ => ho q (by have := hg q hq.1; omega)), ?_, h.near, by simpa using h.sz, fun q h1 h2 h3 => (ho q q9).trans (h.keep q h1 h2 h3)⟩
 exact ⟨by simp [World.setCell, h.fr.os], by simp [World.setCell, h.fr.tape], by simp [World.setCell, h.fr.output], by simpa using h.fr.size, fun q hq h1 h2 => (ho q h1).trans (h.fr.block q hq h1 h2)⟩
theorem ST.done {rx : Nat} (h : ST g A c lt b ok W X0 m r bx X k w wd v l N a) (hgW : g < W.heap.size) (h1 : W.heap.size ≤ rx) (h2 : rx < W.heap.size + m) : Ext g A c lt b ok W k w r a N (.returned (.agg #[.int .u8 k, .int .u8 w, .int .i64 wd, v])) (putN X rx k w wd v) :=
 Ext.done h.ps h.nv h.fr h.near h1 h2 hgW
theorem ST.start2 {X : World} (hP : PS W g A c lt a) (hN : NV b ok W k w wd v l N) (hX : X = (W.alloc (nodeO k w wd v)).alloc (nodeO 0 0 0 (.slice none 0 0))) : ST g A c lt b ok W X 2 v.ownBlock W.heap.size X k w wd v l N a ∧ X.heap[W.heap.size + 1]? = some (nodeO 0 0 0 (.slice none 0 0)) := by
 obtain ⟨hs2, hb2, k0, k1⟩ := alloc2 hX; exact ⟨⟨hP.below hb2, k0, hN.enter 2 hb2, Fr.of_below hb2, .inl rfl, q9, fun q _ _ _ => rfl⟩, k1⟩
theorem ST.cells (h : ST g A c lt b ok W X0 m r bx X k w wd v l N a) : X.cell? ⟨bx, 0, none⟩ = some (.int .u8 k) ∧ X.cell? ⟨bx, 1, none⟩ = some (.int .u8 w) ∧ X.cell? ⟨bx, 2, none⟩ = some (.int .i64 wd) ∧ X.cell? ⟨bx, 3, none⟩ = some v := by
 have k0 := zaf h.box 0; have k1 := zaf h.box 1; have k2 := zaf h.box 2; have k3 := zaf h.box 3; simp at k0 k1 k2 k3; exact ⟨k0, k1, k2, k3⟩
theorem ST.pcells (h : ST g A c lt b ok W X0 m r bx X k w wd v l N a) : X.cell? ⟨g, 0, none⟩ = some (.slice A lt.length c) ∧ X.cell? ⟨g, 1, none⟩ = some (.int .i64 (a : Int)) := by
 obtain ⟨sk, pt, hblk⟩ := h.ps.blk; have k0 := zaf hblk 0; have k1 := zaf hblk 1; simp at k0 k1; exact ⟨k0, k1⟩
theorem PS.cells {X : World} {g : Nat} {A : Option Addr} {c : Nat} {lt : List S40} {a : Nat} (h : PS X g A c lt a) : X.cell? ⟨g, 0, none⟩ = some (.slice A lt.length c) ∧ X.cell? ⟨g, 1, none⟩ = some (.int .i64 (a : Int)) := by
 obtain ⟨sk, pt, hblk⟩ := h.blk; have k0 := zaf hblk 0; have k1 := zaf hblk 1; simp at k0 k1; exact ⟨k0, k1⟩
theorem zaB {X : World} {b : Nat} {o0 o1 o2 o3 : Value} (h : X.heap[b]? = some (.cells #[o0, o1, o2, o3] 24 (0, 0))) : (X.cell? ⟨b, 0, none⟩ = some o0 ∧ X.cell? ⟨b, 1, none⟩ = some o1 ∧ X.cell? ⟨b, 2, none⟩ = some o2 ∧ X.cell? ⟨b, 3, none⟩ = some o3) ∧ b < X.heap.size := by
 have k0 := zaf h 0; have k1 := zaf h 1; have k2 := zaf h 2; have k3 := zaf h 3; simp at k0 k1 k2 k3; exact ⟨⟨k0, k1, k2, k3⟩, zaN h⟩
end
def TkOk (lt : List S40) : Prop := ∀ i : Nat, i < lt.length → (0 ≤ (zbI lt i).f0 ∧ (zbI lt i).f0 ≤ 255) ∧ (-9223372036854775808 ≤ (zbI lt i).f1 ∧ (zbI lt i).f1 ≤ 9223372036854775807)
theorem PS.tok {W : World} {g : Nat} {A : Option Addr} {c : Nat} {lt : List S40} {a : Nat} (h : PS W g A c lt a) (hi : a < lt.length) : ∃ ad, A = some ad ∧ ∀ (X : World) (a' : Nat), PS X g A c lt a' → X.cell? (ad.add (a * 3)) = some (.int .u8 (zbI lt a).f0) ∧ X.cell? ⟨(ad.add (a * 3)).block, (ad.add (a * 3)).off + 1, none⟩ = some (.int .i64 (zbI lt a).f1) := by
 obtain ⟨ad, e, _⟩ := at_T40 (Kd.F_now h.toks) (a : Int) q9 q9
 refine ⟨ad, e, fun X a' hX => ?_⟩
 obtain ⟨ad', e', g0, g1, g2⟩ := at_T40 (Kd.F_now hX.toks) (a : Int) q9 q9
 rw [e] at e'; injection e' with e'
 subst e'; rw [Int.toNat_natCast] at g0 g1; exact ⟨g0, g1⟩
theorem zbU (g : Nat) (A : Option Addr) (c : Nat) (lt : List S40) (htk : TkOk lt) (a : Nat) (b : Nat) (ok : Nat → Prop) (W : World) (k w wd : Int) (v : Value) (l : List S24) (N : Nat) (hP : PS W g A c lt a) (hN : NV b ok W k w wd v l N) (hb : b ≤ W.heap.size) (hg : ∀ q, ok q → g < q) (hf : ∀ q, W.heap.size ≤ q → ok q) (hs : N + (hd lt a - a) ≤ 999999) :
  Calls Try.prog 23 #[.pointer (some ⟨g, 0, none⟩), .agg #[.int .u8 k, .int .u8 w, .int .i64 wd, v]] W (Ext g A c lt b ok W k w v.ownBlock (hd lt a) (N + (hd lt a - a))) := by
 obtain ⟨AA, cc, rfl, hlc, hC⟩ := Kd.zaL hN.row; have HF := J hf; have HG := J hg; have HGW := J hP.lt; have HTO := J htk; have hle := hd_le hP.le; have hge := hd_ge lt a; have hlen := hP.len; obtain ⟨h, hh⟩ : ∃ h, h = hd lt a := ⟨_, rfl⟩; rw [← hh] at hle hge hs ⊢; have HH := J hh; clear hf hg hC htk hh; have hu := Try.underlying24; go_enter Try.func23, Try.ntmps23
 go_upto_region 1 with (fail)
 obtain ⟨X, hX⟩ : ∃ X, X = (W.alloc (nodeO k w wd (.slice AA l.length cc))).alloc (nodeO 0 0 0 (.slice none 0 0)) := ⟨_, rfl⟩; obtain ⟨hst, hrx⟩ := ST.start2 hP hN hX; have HST := J hst; have HRX := J hrx; change Code.wp Try.prog _ _ _ ((W.alloc (nodeO k w wd (.slice AA l.length cc))).alloc (nodeO 0 0 0 (.slice none 0 0)))
 rw [← hX]; clear hst hrx hX hP hN; have HHC := J (hand_calls g A c lt a X HST.out.ps); rw [← HH.out] at HHC; go_wp2_with (go_at_call 42; refine HHC.out.mono ?_; rintro e w2 ⟨rfl, hb2⟩; have HST0 := J (HST.out.below hb2); clear hb2 HST HHC)
 go_loopg [] (h - a) (fun kq w' => ∃ (i : Nat) (wd1 : Int) (v1 : Value) (l1 : List S24) (N1 : Nat), a ≤ i ∧ i ≤ h ∧ zaa (kq = h - i) ∧ zaa (N1 = N + (i - a)) ∧ zaa (ST g A c lt b ok W X 2 (Value.slice AA l.length cc).ownBlock W.heap.size w' k w wd1 v1 l1 N1 i))
 case atStart => exact ⟨a, wd, _, l, N, Nat.le_refl _, hge, ⟨rfl⟩, ⟨q9⟩, HST0⟩
 case round =>
  obtain ⟨i, wd1, v1, l1, N1, ha1, hih, HK, HN1E, HST⟩ := hrel; obtain ⟨A1, c1, rfl, _, _⟩ := Kd.zaL HST.out.nv.row; have HN1 := J (show N1 + 1 ≤ 1000000 by have := HN1E.out; omega)
  obtain ⟨p0, p1⟩ := HST.out.pcells; by_cases hlt : i < h
  ·obtain ⟨ad, rfl, htk⟩ := HST.out.ps.tok q9
   have HTR := J (HTO.out i q9)
   obtain ⟨tk, htk1⟩ : ∃ tk, tk = (zbI lt i).f0 := ⟨_, rfl⟩; obtain ⟨tw, htw1⟩ : ∃ tw, tw = (zbI lt i).f1 := ⟨_, rfl⟩; rw [← htk1, ← htw1] at HTR; simp only [← htk1, ← htw1] at htk; have HTK := J (fun (X : World) (h : PS X g (some ad) c lt i) => htk X i h)
   clear htk htk1 htw1; go_wp2_with fail
   clear p0 p1; obtain ⟨X1, hX1⟩ : ∃ X1, X1 = wr := ⟨_, rfl⟩; rw [← hX1] at HST ⊢; clear hX1; have hil : i < lt.length := by omega
   have HD := J (HST.out.below (Y := X1.drew) (Below.refl _ _).drew); have HTD := J (HTK.out _ HD.out.ps); have HS0 := J (And.intro HD.out.cells (And.intro HD.out.pcells HTD.out)); clear HST; refine wp_region_noPanic (zba [0, 1, 2, 3, 4, 5, 6, 7, 8, 9, 10, 11, 12, 13, 14, 15, 16, 17, 18, 19, 20, 21, 22, 23, 24] (fun W' => (W'.cell? ⟨W.heap.size, 0, none⟩ = some (.int .u8 k) ∧ W'.cell? ⟨W.heap.size, 1, none⟩ = some (.int .u8 w) ∧ W'.cell? ⟨W.heap.size, 2, none⟩ = some (.int .i64 wd1) ∧ W'.cell? ⟨W.heap.size, 3, none⟩ = some (.slice A1 l1.length c1)) ∧ (W'.cell? ⟨g, 0, none⟩ = some (.slice (some ad) lt.length c) ∧ W'.cell? ⟨g, 1, none⟩ = some (.int .i64 (i : Int))) ∧ W'.cell? (ad.add (i * 3)) = some (.int .u8 tk) ∧ W'.cell? ⟨(ad.add (i * 3)).block, (ad.add (i * 3)).off + 1, none⟩ = some (.int .i64 tw)) qb ?_)
   refine zah 0 rfl HS0.out (fun _ h => ql) ?_
   simp only [Act.put, zai]; refine zah 1 rfl HS0.out (fun _ h => ql) ?_
   simp only [Act.put, zai]; refine zah 2 rfl HS0.out (fun _ h => ql) ?_
   simp only [Act.put, zai]; refine zah 3 rfl HS0.out (fun _ h => ql) ?_
   simp only [Act.put, zai]; refine zah 4 rfl HS0.out (fun _ h => ql) ?_
   simp only [Act.put, zai]; refine zah 5 rfl HS0.out (fun _ h => ql) ?_
   simp only [Act.put, zai]; refine zah 6 rfl HS0.out (fun _ h => ql) ?_
   simp only [Act.put, zai]; refine zah 7 rfl HS0.out (fun _ h => ql) ?_
   simp only [Act.put, zai]; refine zah 8 rfl HS0.out (fun _ h => ql) ?_
   simp only [Act.put, zai]; refine zah 9 rfl HS0.out (fun _ h => ql) ?_
   simp only [Act.put, zai]; refine zah 10 rfl HS0.out (fun _ h => ql) ?_
   simp only [Act.put, zai]; refine zah 11 rfl HS0.out (fun _ h => ql) ?_
   simp only [Act.put, zai]; refine zah 12 rfl HS0.out (fun _ h => ql) ?_
   simp only [Act.put, zai]; refine zah 13 rfl HS0.out (fun _ h => ql) ?_
   simp only [Act.put, zai]; refine zah 14 rfl HS0.out (fun _ h => ql) ?_
   simp only [Act.put, zai]; refine zah 15 rfl HS0.out (fun _ h => ql) ?_
   simp only [Act.put, zai]; refine zah 16 rfl HS0.out (fun _ h => ql) ?_
   simp only [Act.put, zai]; refine zah 17 rfl HS0.out (fun _ h => ql) ?_
   simp only [Act.put, zai]; refine zah 18 rfl HS0.out (fun _ h => ql) ?_
   simp only [Act.put, zai]; refine zah 19 rfl HS0.out (fun _ h => ql) ?_
   simp only [Act.put, zai]; refine zah 20 rfl HS0.out (fun _ h => ql) ?_
   simp only [Act.put, zai]; refine zah 21 rfl HS0.out (fun _ h => ql) ?_
   simp only [Act.put, zai]; refine zah 22 rfl HS0.out (fun _ h => ql) ?_
   simp only [Act.put, zai]; refine zah 23 rfl HS0.out (fun _ h => ql) ?_
   simp only [Act.put, zai]; refine zaI (i := 24) rfl qb (fun K hK => ?_)
   go_simp
   refine (zb0 b (okm ok W 2) _ k w wd1 (.slice A1 l1.length c1) l1 N1 tk 0 tw (.slice none 0 0) [] 1 HD.out.nv qY (fun q hq => ⟨HF.out q qY, .inr qY⟩) (NV.leaf HTR.out.1 q9 HTR.out.2 (Nat.le_refl _)) (by have := HN1.out; omega)).mono ?_
   rintro e w2 ⟨wd2, u, l2, rfl, h1, h2, h3⟩
   obtain ⟨A2, c2, rfl, _, _⟩ := Kd.zaL h1.row; have hps := HD.out.ps.keep (W' := w2) (fun q hq => h2.block q (by have := HD.out.ps.lt; omega) (fun e => by have := HG.out q (HD.out.nv.row.1 q e.symm).1; omega))
   have HST2 := J (HD.out.put HGW.out (Nat.le_refl _) q9 hps h1 (Fr.zaX h2) h3)
   have r0 := (h2.block W.heap.size qY (HD.out.row (Nat.le_refl _) q9)).trans HD.out.box
   have f0 := zab r0 0; have f1 := zab r0 1; have f2 := zab r0 2; have f3 := zab r0 3; obtain ⟨⟨d0, d1, d2, d3⟩, dl⟩ := zaB r0; have HS1 := J (show (w2.cell? ⟨W.heap.size, 0, none⟩ = some (.int .u8 k) ∧ w2.cell? ⟨W.heap.size, 1, none⟩ = some (.int .u8 w) ∧ w2.cell? ⟨W.heap.size, 2, none⟩ = some (.int .i64 wd1) ∧ w2.cell? ⟨W.heap.size, 3, none⟩ = some (.slice A1 l1.length c1)) ∧ (w2.cell? ⟨g, 0, none⟩ = some (.slice (some ad) lt.length c) ∧ w2.cell? ⟨g, 1, none⟩ = some (.int .i64 (i : Int))) ∧ w2.cell? (ad.add (i * 3)) = some (.int .u8 tk) ∧ w2.cell? ⟨(ad.add (i * 3)).block, (ad.add (i * 3)).off + 1, none⟩ = some (.int .i64 tw) from ⟨⟨d0, d1, d2, d3⟩, hps.cells, HTK.out _ hps⟩)
   clear h1 h2 h3 hps r0; refine hK.out _ _ (fun _ => HS1.out) (fun _ => ?_)
   clear hK K; try simp only [Act.put, zai]
   refine zaI (i := 25) rfl qb (fun K hK => ?_)
   go_simp
   refine hK.out _ _ (fun h => Bool.noConfusion (show false = true from h)) (fun _ => ?_)
   clear hK K; try simp only [Act.put, zai]
   refine za3 qb (NoPanic.normal ?_) _
   clear d0 d1 d2 d3 dl f0 f1 f2 f3 HD HTD HS0 HS1; obtain ⟨X2, hX2⟩ : ∃ X2, X2 = putN w2 W.heap.size k w wd2 (.slice A2 l2.length c2) := ⟨_, rfl⟩; rw [← hX2] at HST2; simp only [putN] at hX2; rw [← hX2]; clear hX2; obtain ⟨sk, pt, hblk⟩ := HST2.out.ps.blk; have gf := zab hblk 1; have gl := zaN hblk; have g1 := zaf hblk 1; simp at g1; have HI := J (show i + 1 ≤ lt.length by omega)
   clear hblk; go_wp2
   go_roundg (h - (i + 1))
   case measure => have := HK.out; omega
   case rel =>
    refine ⟨i + 1, wd2, .slice A2 l2.length c2, l2, N1 + 1, q9, q9, ⟨rfl⟩, ⟨by have := HN1E.out; omega⟩, ⟨?_⟩⟩
    have h2 := HST2.out.at_ (a2 := i + 1) HGW.out HG.out HGW.out HI.out; have he : ((i + 1 : Nat) : Int) = (i : Int) + 1 := by omega
    rw [he] at h2; exact h2
  ·obtain rfl : i = h := by omega
   have hrb := (HST.out.keep (W.heap.size + 1) q9 q9 q9).trans HRX.out
   have HRB := J hrb; have f0 := zab hrb 0; have f1 := zab hrb 1; have f2 := zab hrb 2; have f3 := zab hrb 3; obtain ⟨⟨d0, d1, d2, d3⟩, dl⟩ := zaB hrb; obtain ⟨x0, x1, x2, x3⟩ := HST.out.cells; clear hrb; go_wp2
   have hgl := HGW.out; refine bodyPost_ret (zaM (r := .cell 4 24) rfl (.cell (W.heap.size + 1) 24 _ (0, 0) _ rfl (za7 HRB.out) Try.underlying24 rfl qb .nil)) rfl ?_
   have h2 := HST.out.done (rx := W.heap.size + 1) hgl q9 q9
   rw [HN1E.out] at h2; exact h2
theorem okm_g {ok : Nat → Prop} {W : World} {m g : Nat} (hg : ∀ q, ok q → g < q) : ∀ q, okm ok W m q → g < q := fun q hq => hg q hq.1
theorem okm_f {ok : Nat → Prop} {W X : World} {m : Nat} (hf : ∀ q, W.heap.size ≤ q → ok q) (hX : W.heap.size + m ≤ X.heap.size) : ∀ q, X.heap.size ≤ q → okm ok W m q := fun q hq => ⟨hf q q9, .inr q9⟩
theorem zbq (g : Nat) (A : Option Addr) (c : Nat) (lt : List S40) (htk : TkOk lt) (a : Nat) (b : Nat) (ok : Nat → Prop) (W : World) (k w wd : Int) (v : Value) (l : List S24) (N : Nat) (hP : PS W g A c lt a) (hN : NV b ok W k w wd v l N) (hb : b ≤ W.heap.size) (hg : ∀ q, ok q → g < q) (hf : ∀ q, W.heap.size ≤ q → ok q) (hlt : hd lt a < lt.length) (hs : N + (hd lt a + 1 - a) ≤ 999999) :
  Calls Try.prog 47 #[.pointer (some ⟨g, 0, none⟩), .agg #[.int .u8 k, .int .u8 w, .int .i64 wd, v]] W (Ext g A c lt b ok W k w v.ownBlock (hd lt a + 1) (N + (hd lt a + 1 - a))) := by
 obtain ⟨AA, cc, rfl, hlc, hC⟩ := Kd.zaL hN.row; have HF := J hf; have HG := J hg; have HGW := J hP.lt; have HTO := J htk; have hge := hd_ge lt a; have hlen := hP.len; obtain ⟨i, hh⟩ : ∃ h, h = hd lt a := ⟨_, rfl⟩; have hgap := fun (ok : Nat → Prop) (W : World) (hP : PS W g A c lt a) (hN : NV b ok W k w wd (.slice AA l.length cc) l N) (hb : b ≤ W.heap.size) (hg : ∀ q, ok q → g < q) (hf : ∀ q, W.heap.size ≤ q → ok q) => zbU g A c lt htk a b ok W k w wd _ l N hP hN hb hg hf q9
 rw [← hh] at hge hs hlt hgap ⊢; have HGAP := J hgap; clear hf hg hC htk hh hgap; have hu := Try.underlying24; go_enter Try.func47, Try.ntmps47
 go_upto_region 1 with (fail)
 obtain ⟨X, hX⟩ : ∃ X, X = (W.alloc (nodeO k w wd (.slice AA l.length cc))).alloc (nodeO 0 0 0 (.slice none 0 0)) := ⟨_, rfl⟩; obtain ⟨hst, hrx⟩ := ST.start2 hP hN hX; have HS0 := J hst; have HRX := J hrx; obtain ⟨x0, x1, x2, x3⟩ := hst.cells; change Code.wp Try.prog _ _ _ ((W.alloc (nodeO k w wd (.slice AA l.length cc))).alloc (nodeO 0 0 0 (.slice none 0 0)))
 rw [← hX]; clear hst hrx hX hP hN; go_upto_region 2 with (go_at_call 23; refine (HGAP.out (okm ok W 2) X HS0.out.ps HS0.out.nv (by have := HS0.out.sz; omega) (okm_g HG.out) (okm_f HF.out HS0.out.sz)).mono ?_; rintro e w1 ⟨wd1, u, l1, rfl, h1, h2, h3, h4⟩; obtain ⟨A1, c1, rfl, _, _⟩ := Kd.zaL h2.row; have HST := J (HS0.out.put HGW.out q9 q9 h1 h2 h3 h4); have r0 := (HS0.out.var HGW.out h3 (q := W.heap.size) q9 q9).trans HS0.out.box; have f0 := zab r0 0; have f1 := zab r0 1; have f2 := zab r0 2; have f3 := zab r0 3; obtain ⟨⟨d0, d1, d2, d3⟩, dl⟩ := zaB r0; clear h1 h2 h3 h4 r0 x0 x1 x2 x3)
 obtain ⟨X1, hX1⟩ : ∃ X1, X1 = putN w1 W.heap.size k w wd1 (.slice A1 l1.length c1) := ⟨_, rfl⟩; rw [← hX1] at HST; simp only [putN] at hX1; rw [← hX1]; clear hX1 f0 f1 f2 f3 d0 d1 d2 d3 dl; obtain ⟨N1, hN1⟩ : ∃ N1, N1 = N + (i - a) := ⟨_, rfl⟩; rw [← hN1] at HST; have HN1E := J hN1; have HN1 := J (show N1 + 1 ≤ 1000000 by omega)
 clear hN1 HS0 HGAP; obtain ⟨ad, rfl, htk⟩ := HST.out.ps.tok hlt; have HTR := J (HTO.out i hlt); obtain ⟨tk, htk1⟩ : ∃ tk, tk = (zbI lt i).f0 := ⟨_, rfl⟩; obtain ⟨tw, htw1⟩ : ∃ tw, tw = (zbI lt i).f1 := ⟨_, rfl⟩; rw [← htk1, ← htw1] at HTR; simp only [← htk1, ← htw1] at htk; have HTK := J (fun (X : World) (h : PS X g (some ad) c lt i) => htk X i h)
 clear htk htk1 htw1; have hil : i < lt.length := hlt; have HD := J (HST.out.below (Y := X1.drew) (Below.refl _ _).drew); have HTD := J (HTK.out _ HD.out.ps); have HS0 := J (And.intro HD.out.cells (And.intro HD.out.pcells HTD.out)); clear HST; refine wp_region_noPanic (zba [0, 1, 2, 3, 4, 5, 6, 7, 8, 9, 10, 11, 12, 13, 14, 15, 16, 17, 18, 19, 20, 21, 22, 23, 24] (fun W' => (W'.cell? ⟨W.heap.size, 0, none⟩ = some (.int .u8 k) ∧ W'.cell? ⟨W.heap.size, 1, none⟩ = some (.int .u8 w) ∧ W'.cell? ⟨W.heap.size, 2, none⟩ = some (.int .i64 wd1) ∧ W'.cell? ⟨W.heap.size, 3, none⟩ = some (.slice A1 l1.length c1)) ∧ (W'.cell? ⟨g, 0, none⟩ = some (.slice (some ad) lt.length c) ∧ W'.cell? ⟨g, 1, none⟩ = some (.int .i64 (i : Int))) ∧ W'.cell? (ad.add (i * 3)) = some (.int .u8 tk) ∧ W'.cell? ⟨(ad.add (i * 3)).block, (ad.add (i * 3)).off + 1, none⟩ = some (.int .i64 tw)) qb ?_)
 refine zah 0 rfl HS0.out (fun _ h => ql) ?_
 simp only [Act.put, zai]; refine zah 1 rfl HS0.out (fun _ h => ql) ?_
 simp only [Act.put, zai]; refine zah 2 rfl HS0.out (fun _ h => ql) ?_
 simp only [Act.put, zai]; refine zah 3 rfl HS0.out (fun _ h => ql) ?_
 simp only [Act.put, zai]; refine zah 4 rfl HS0.out (fun _ h => ql) ?_
 simp only [Act.put, zai]; refine zah 5 rfl HS0.out (fun _ h => ql) ?_
 simp only [Act.put, zai]; refine zah 6 rfl HS0.out (fun _ h => ql) ?_
 simp only [Act.put, zai]; refine zah 7 rfl HS0.out (fun _ h => ql) ?_
 simp only [Act.put, zai]; refine zah 8 rfl HS0.out (fun _ h => ql) ?_
 simp only [Act.put, zai]; refine zah 9 rfl HS0.out (fun _ h => ql) ?_
 simp only [Act.put, zai]; refine zah 10 rfl HS0.out (fun _ h => ql) ?_
 simp only [Act.put, zai]; refine zah 11 rfl HS0.out (fun _ h => ql) ?_
 simp only [Act.put, zai]; refine zah 12 rfl HS0.out (fun _ h => ql) ?_
 simp only [Act.put, zai]; refine zah 13 rfl HS0.out (fun _ h => ql) ?_
 simp only [Act.put, zai]; refine zah 14 rfl HS0.out (fun _ h => ql) ?_
 simp only [Act.put, zai]; refine zah 15 rfl HS0.out (fun _ h => ql) ?_
 simp only [Act.put, zai]; refine zah 16 rfl HS0.out (fun _ h => ql) ?_
 simp only [Act.put, zai]; refine zah 17 rfl HS0.out (fun _ h => ql) ?_
 simp only [Act.put, zai]; refine zah 18 rfl HS0.out (fun _ h => ql) ?_
 simp only [Act.put, zai]; refine zah 19 rfl HS0.out (fun _ h => ql) ?_
 simp only [Act.put, zai]; refine zah 20 rfl HS0.out (fun _ h => ql) ?_
 simp only [Act.put, zai]; refine zah 21 rfl HS0.out (fun _ h => ql) ?_
 simp only [Act.put, zai]; refine zah 22 rfl HS0.out (fun _ h => ql) ?_
 simp only [Act.put, zai]; refine zah 23 rfl HS0.out (fun _ h => ql) ?_
 simp only [Act.put, zai]; refine zaI (i := 24) rfl qb (fun K hK => ?_)
 go_simp
 refine (zb0 b (okm ok W 2) _ k w wd1 (.slice A1 l1.length c1) l1 N1 tk 0 tw (.slice none 0 0) [] 1 HD.out.nv qY (fun q hq => ⟨HF.out q qY, .inr qY⟩) (NV.leaf HTR.out.1 q9 HTR.out.2 (Nat.le_refl _)) (by have := HN1.out; omega)).mono ?_
 rintro e w2 ⟨wd2, u, l2, rfl, h1, h2, h3⟩
 obtain ⟨A2, c2, rfl, _, _⟩ := Kd.zaL h1.row; have hps := HD.out.ps.keep (W' := w2) (fun q hq => h2.block q (by have := HD.out.ps.lt; omega) (fun e => by have := HG.out q (HD.out.nv.row.1 q e.symm).1; omega))
 have HST2 := J (HD.out.put HGW.out (Nat.le_refl _) q9 hps h1 (Fr.zaX h2) h3)
 have r0 := (h2.block W.heap.size qY (HD.out.row (Nat.le_refl _) q9)).trans HD.out.box
 have f0 := zab r0 0; have f1 := zab r0 1; have f2 := zab r0 2; have f3 := zab r0 3; obtain ⟨⟨d0, d1, d2, d3⟩, dl⟩ := zaB r0; have HS1 := J (show (w2.cell? ⟨W.heap.size, 0, none⟩ = some (.int .u8 k) ∧ w2.cell? ⟨W.heap.size, 1, none⟩ = some (.int .u8 w) ∧ w2.cell? ⟨W.heap.size, 2, none⟩ = some (.int .i64 wd1) ∧ w2.cell? ⟨W.heap.size, 3, none⟩ = some (.slice A1 l1.length c1)) ∧ (w2.cell? ⟨g, 0, none⟩ = some (.slice (some ad) lt.length c) ∧ w2.cell? ⟨g, 1, none⟩ = some (.int .i64 (i : Int))) ∧ w2.cell? (ad.add (i * 3)) = some (.int .u8 tk) ∧ w2.cell? ⟨(ad.add (i * 3)).block, (ad.add (i * 3)).off + 1, none⟩ = some (.int .i64 tw) from ⟨⟨d0, d1, d2, d3⟩, hps.cells, HTK.out _ hps⟩)
 clear h1 h2 h3 hps r0; refine hK.out _ _ (fun _ => HS1.out) (fun _ => ?_)
 clear hK K; try simp only [Act.put, zai]
 refine zaI (i := 25) rfl qb (fun K hK => ?_)
 go_simp
 refine hK.out _ _ (fun h => Bool.noConfusion (show false = true from h)) (fun _ => ?_)
 clear hK K; try simp only [Act.put, zai]
 refine za3 qb (NoPanic.normal ?_) _
 clear d0 d1 d2 d3 dl f0 f1 f2 f3 HD HTD HS0 HS1; obtain ⟨X2, hX2⟩ : ∃ X2, X2 = putN w2 W.heap.size k w wd2 (.slice A2 l2.length c2) := ⟨_, rfl⟩; rw [← hX2] at HST2; simp only [putN] at hX2; rw [← hX2]; clear hX2; obtain ⟨sk, pt, hblk⟩ := HST2.out.ps.blk; have gf := zab hblk 1; have gl := zaN hblk; have g1 := zaf hblk 1; simp at g1; have HI := J (show i + 1 ≤ lt.length by omega)
 clear hblk; go_upto_region 4 with (fail)
 have h2 := HST2.out.at_ (a2 := i + 1) HGW.out HG.out HGW.out HI.out; have he : ((i + 1 : Nat) : Int) = (i : Int) + 1 := by omega
 rw [he] at h2; obtain ⟨X3, hX3⟩ : ∃ X3, X3 = X2.setCell ⟨g, 1, none⟩ (.int .i64 ((i : Int) + 1)) := ⟨_, rfl⟩; rw [← hX3] at h2 ⊢; have HST3 := J h2; clear h2 hX3 gf gl g1; have hrb := (HST3.out.keep (W.heap.size + 1) q9 q9 q9).trans HRX.out
 have HRB := J hrb; have f0 := zab hrb 0; have f1 := zab hrb 1; have f2 := zab hrb 2; have f3 := zab hrb 3; obtain ⟨⟨d0, d1, d2, d3⟩, dl⟩ := zaB hrb; obtain ⟨x0, x1, x2, x3⟩ := HST3.out.cells; clear hrb; go_wp2
 have hgl := HGW.out; refine bodyPost_ret (zaM (r := .cell 4 24) rfl (.cell (W.heap.size + 1) 24 _ (0, 0) _ rfl (za7 HRB.out) Try.underlying24 rfl qb .nil)) rfl ?_
 have h2 := HST3.out.done (rx := W.heap.size + 1) hgl q9 q9
 have e : N1 + 1 = N + (i + 1 - a) := by have := HN1E.out; omega
 rw [e] at h2; exact h2
theorem zbA (g : Nat) (A : Option Addr) (c : Nat) (lt : List S40) (htk : TkOk lt) (a : Nat) (b : Nat) (ok : Nat → Prop) (W : World) (k w wd : Int) (v : Value) (l : List S24) (N : Nat) (kd : Int) (hkd : 1 ≤ kd ∧ kd ≤ 255) (hP : PS W g A c lt a) (hN : NV b ok W k w wd v l N) (hb : b ≤ W.heap.size) (hg : ∀ q, ok q → g < q) (hf : ∀ q, W.heap.size ≤ q → ok q) (hs : N + (lt.length - a) ≤ 999998) :
  Calls Try.prog 60 #[.pointer (some ⟨g, 0, none⟩), .agg #[.int .u8 k, .int .u8 w, .int .i64 wd, v], .int .u8 kd] W fun e W' => ∃ a', a ≤ a' ∧ a' ≤ lt.length ∧ Ext g A c lt b ok W k w v.ownBlock a' (N + (a' - a) + 1) e W' := by
 obtain ⟨AA, cc, rfl, hlc, hC⟩ := Kd.zaL hN.row; have HF := J hf; have HG := J hg; have HGW := J hP.lt; have HTO := J htk; have hle := hP.le; have HLE := J hle; clear hf hg hC htk; have hu := Try.underlying24; go_enter Try.func60, Try.ntmps60
 go_upto_region 1 with (fail)
 obtain ⟨X, hX⟩ : ∃ X, X = (W.alloc (nodeO k w wd (.slice AA l.length cc))).alloc (nodeO 0 0 0 (.slice none 0 0)) := ⟨_, rfl⟩; obtain ⟨hst, hrx⟩ := ST.start2 hP hN hX; have HS0 := J hst; have HRX := J hrx; change Code.wp Try.prog _ _ _ ((W.alloc (nodeO k w wd (.slice AA l.length cc))).alloc (nodeO 0 0 0 (.slice none 0 0)))
 rw [← hX]; clear hst hrx hX hP hN; have HKC := J (za5 g A c lt a X HS0.out.ps); obtain ⟨q, hq⟩ : ∃ q, q = cu lt a := ⟨_, rfl⟩; rw [← hq] at HKC; have HQ := J hq; clear hq; by_cases hqk : q = kd
 ·have d0 : (q == kd) = true := by simp [hqk]
  have hh := cu_lt (l := lt) (a := a) (by rw [← HQ.out, hqk]; omega)
  have HH := J hh; clear hh hqk; go_upto_region 2 with (go_at_call 21; refine HKC.out.mono ?_; rintro e w2 ⟨rfl, hb2⟩; have HST0 := J (HS0.out.below hb2); clear hb2 HS0 HKC)
  obtain ⟨x0, x1, x2, x3⟩ := HST0.out.cells; go_wp2_with (go_at_call 47; refine (zbq g A c lt HTO.out a b (okm ok W 2) w2 k w wd _ l N HST0.out.ps HST0.out.nv (by have := HST0.out.sz; omega) (okm_g HG.out) (okm_f HF.out HST0.out.sz) HH.out (by have := HH.out; omega)).mono ?_; rintro e w3 ⟨wd1, u, l1, rfl, h1, h2, h3, h4⟩; obtain ⟨A1, c1, rfl, _, _⟩ := Kd.zaL h2.row; have HRET := J (HST0.out.ret (rx := W.heap.size + 1) HGW.out q9 q9 h1 h2 h3 h4); have r0 := ((HST0.out.var HGW.out h3 (q := W.heap.size + 1) q9 q9).trans (HST0.out.keep (W.heap.size + 1) q9 q9 q9)).trans HRX.out; have HRB := J r0; have f0 := zab r0 0; have f1 := zab r0 1; have f2 := zab r0 2; have f3 := zab r0 3; obtain ⟨⟨d0, d1, d2, d3⟩, dl⟩ := zaB r0; clear h1 h2 h3 h4 r0 x0 x1 x2 x3)
  refine bodyPost_ret (zaM (r := .cell 6 24) rfl (.cell (W.heap.size + 1) 24 _ (0, 0) _ rfl (za7 HRB.out) Try.underlying24 rfl qb .nil)) rfl ?_
  have h2 := HRET.out; refine ⟨hd lt a + 1, by have := hd_ge lt a; omega, by have := HH.out; omega, ?_⟩
  obtain ⟨wd9, u9, l9, e1, e2, e3, e4, e5⟩ := h2; exact ⟨wd9, u9, l9, e1, e2, e3.more q9, e4, e5⟩
 ·have d0 : (q == kd) = false := by simp [hqk]
  go_upto_region 3 with (go_at_call 21; refine HKC.out.mono ?_; rintro e w2 ⟨rfl, hb2⟩; have HST0 := J (HS0.out.below hb2); clear hb2 HS0 HKC)
  obtain ⟨x0, x1, x2, x3⟩ := HST0.out.cells; go_wp2_with (go_at_call 72; refine (zbW g A c lt a b (okm ok W 2) w2 k w wd _ l N kd q9 HST0.out.ps HST0.out.nv (by have := HST0.out.sz; omega) (okm_g HG.out) (okm_f HF.out HST0.out.sz) q9).mono ?_; rintro e w3 ⟨wd1, u, l1, rfl, h1, h2, h3, h4⟩; obtain ⟨A1, c1, rfl, _, _⟩ := Kd.zaL h2.row; have HRET := J (HST0.out.ret (rx := W.heap.size + 1) HGW.out q9 q9 h1 h2 h3 h4); have r0 := ((HST0.out.var HGW.out h3 (q := W.heap.size + 1) q9 q9).trans (HST0.out.keep (W.heap.size + 1) q9 q9 q9)).trans HRX.out; have HRB := J r0; have f0 := zab r0 0; have f1 := zab r0 1; have f2 := zab r0 2; have f3 := zab r0 3; obtain ⟨⟨d0, d1, d2, d3⟩, dl⟩ := zaB r0; clear h1 h2 h3 h4 r0 x0 x1 x2 x3)
  refine bodyPost_ret (zaM (r := .cell 6 24) rfl (.cell (W.heap.size + 1) 24 _ (0, 0) _ rfl (za7 HRB.out) Try.underlying24 rfl qb .nil)) rfl ?_
  have h2 := HRET.out; refine ⟨a, Nat.le_refl _, HLE.out, ?_⟩
  obtain ⟨wd9, u9, l9, e1, e2, e3, e4, e5⟩ := h2; exact ⟨wd9, u9, l9, e1, e2, e3.more q9, e4, e5⟩
theorem doneX {g : Nat} {A : Option Addr} {c : Nat} {lt : List S40} {b : Nat} {ok : Nat → Prop} {W X0 : World} {m : Nat} {r : Option Nat} {bx : Nat} {X : World} {k w wd : Int} {v : Value} {l : List S24} {N a rx : Nat} (h : ST g A c lt b ok W X0 m r bx X k w wd v l N a) (hgW : g < W.heap.size) (h1 : W.heap.size ≤ rx) (h2 : rx < W.heap.size + m) :
  PS (putN X rx k w wd v) g A c lt a ∧ NV b ok (putN X rx k w wd v) k w wd v l N ∧ Fr g r W (putN X rx k w wd v) :=
 ⟨h.ps.keep (fun q hq => zbF q9), (h.nv.step (fun q hq _ => zbF (by have := hq.2; omega))).mono (fun q hq => hq.1), putN_fr h.fr h1⟩
theorem taken_calls (g : Nat) (A : Option Addr) (c : Nat) (lt : List S40) (a : Nat) (b : Nat) (ok : Nat → Prop) (W : World) (k w wd : Int) (v : Value) (l : List S24) (N : Nat) (kd : Int) (hP : PS W g A c lt a) (hN : NV b ok W k w wd v l N) (hg : ∀ q, ok q → g < q) :
  Calls Try.prog 44 #[.pointer (some ⟨g, 0, none⟩), .agg #[.int .u8 k, .int .u8 w, .int .i64 wd, v], .int .u8 kd] W fun e W' => e = .returned (.tuple #[.agg #[.int .u8 k, .int .u8 w, .int .i64 wd, v], .bool false]) ∧ PS W' g A c lt a ∧ NV b ok W' k w wd v l N ∧ Fr g v.ownBlock W W' := by
 obtain ⟨AA, cc, rfl, hlc, hC⟩ := Kd.zaL hN.row; have HG := J hg; have HGW := J hP.lt; clear hg hC; have hu := Try.underlying24; go_enter Try.func44, Try.ntmps44
 go_upto_region 1 with (fail)
 obtain ⟨X, hX⟩ : ∃ X, X = (W.alloc (nodeO k w wd (.slice AA l.length cc))).alloc (nodeO 0 0 0 (.slice none 0 0)) := ⟨_, rfl⟩; obtain ⟨hst, hrx⟩ := ST.start2 hP hN hX; have HS0 := J hst; have HRX := J hrx; change Code.wp Try.prog _ _ _ ((W.alloc (nodeO k w wd (.slice AA l.length cc))).alloc (nodeO 0 0 0 (.slice none 0 0)))
 rw [← hX]; clear hst hrx hX hP hN; obtain ⟨sk, pt, hblk⟩ := HS0.out.ps.blk; have gf := zab hblk 3; have gl := zaN hblk; have g1 := zaf hblk 3; simp at g1; have HS1 := J (fun z => HS0.out.asked z HGW.out HG.out HGW.out)
 clear hblk; go_upto_region 2 with (fail)
 obtain ⟨X1, hX1⟩ : ∃ X1, X1 = X.setCell ⟨g, 3, none⟩ (.int .i64 (wrap64 (sk + 1))) := ⟨_, rfl⟩; have HS2 := J (HS1.out (wrap64 (sk + 1))); rw [← hX1] at HS2 ⊢; clear hX1 HS1 gf gl g1 HS0; have HH := J (hand_calls g A c lt a X1 HS2.out.ps); obtain ⟨h, hh⟩ : ∃ h, h = hd lt a := ⟨_, rfl⟩; rw [← hh] at HH; clear hh; go_wp2_with (go_at_call 42; refine HH.out.mono ?_; rintro e w2 ⟨rfl, hb2⟩; have HS3 := J (HS2.out.below hb2); clear hb2 HS2 HH)
 go_loopg [9] 0 (fun kq v9 w' => v9 = .int .i64 0 ∧ zaa (kq = 0) ∧ zaa (ST g A c lt b ok W X 2 (Value.slice AA l.length cc).ownBlock W.heap.size w' k w wd (.slice AA l.length cc) l N a))
 case atStart => exact ⟨rfl, ⟨rfl⟩, HS3⟩
 case round =>
  obtain ⟨rfl, _, HST⟩ := hrel; have hrb := (HST.out.keep (W.heap.size + 1) q9 q9 q9).trans HRX.out
  have HRB := J hrb; have f0 := zab hrb 0; have f1 := zab hrb 1; have f2 := zab hrb 2; have f3 := zab hrb 3; obtain ⟨⟨d0, d1, d2, d3⟩, dl⟩ := zaB hrb; obtain ⟨x0, x1, x2, x3⟩ := HST.out.cells; obtain ⟨sk2, pt2, hblk⟩ := HST.out.ps.blk; have g2 := zaf hblk 2; simp at g2; clear hrb hblk; go_wp2
  have hgl := HGW.out; refine bodyPost_ret (zbO rfl _ _ (W.heap.size + 1) 24 _ (0, 0) _ rfl (za7 HRB.out) Try.underlying24 rfl qb) rfl ?_
  obtain ⟨e2, e3, e4⟩ := doneX HST.out hgl (rx := W.heap.size + 1) q9 q9
  exact ⟨rfl, e2, e3, e4⟩
structure S2 (g : Nat) (A : Option Addr) (c : Nat) (lt : List S40) (ok okx : Nat → Prop) (W : World) (r : Option Nat) (X : World) (a : Nat) : Prop where
 ps : PS X g A c lt a
 fr : Fr g r W X
 gW : g < W.heap.size
 hg : ∀ q, ok q → g < q
 sub : ∀ q, okx q → ok q
 fresh : ∀ q, X.heap.size ≤ q → okx q
structure VI (okx : Nat → Prop) (W X : World) (p : Nat) : Prop where
 at_ : ∃ z0 z1 z2 z3 : Value, X.heap[p]? = some (.cells #[z0, z1, z2, z3] 24 (0, 0))
 out : ¬ okx p
 new : W.heap.size ≤ p
structure NI (b : Nat) (okx : Nat → Prop) (W : World) (r : Option Nat) (X : World) (p : Nat) (k w wd : Int) (v : Value) (l : List S24) (N : Nat) : Prop where
 box : X.heap[p]? = some (nodeO k w wd v)
 nv : NV b okx X k w wd v l N
 near : Near W r v
 out : ¬ okx p
 new : W.heap.size ≤ p
section
variable {g : Nat} {A : Option Addr} {c : Nat} {lt : List S40} {b : Nat} {ok okx : Nat → Prop} {W : World} {r : Option Nat} {X Y : World} {p q : Nat} {k w wd : Int} {v : Value} {l : List S24} {N a : Nat}
theorem S2.below (h : S2 g A c lt ok okx W r X a) (hb : Below X.heap.size X Y) : S2 g A c lt ok okx W r Y a :=
 ⟨h.ps.below hb, h.fr.trans (r' := none) (Fr.of_below hb) (fun q hq => by cases hq), h.gW, h.hg, h.sub, fun q hq => h.fresh q (Nat.le_trans hb.size hq)⟩
theorem VI.zav (h : VI okx W X p) : p < X.heap.size := by
 obtain ⟨_, _, _, _, h⟩ := h.at_; exact zaN h
theorem VI.same (h : VI okx W X p) (he : Y.heap[p]? = X.heap[p]?) : VI okx W Y p := by
 obtain ⟨z0, z1, z2, z3, h1⟩ := h.at_; exact ⟨⟨z0, z1, z2, z3, he.trans h1⟩, h.out, h.new⟩
theorem VI.below (h : VI okx W X p) (hb : Below X.heap.size X Y) : VI okx W Y p := h.same (hb.block p h.zav)
theorem NI.zav (h : NI b okx W r X p k w wd v l N) : p < X.heap.size := zaN h.box
theorem NI.below (h : NI b okx W r X p k w wd v l N) (hb : Below X.heap.size X Y) : NI b okx W r Y p k w wd v l N :=
 ⟨zaG h.box hb, h.nv.step (fun q _ hq => hb.block q hq), h.near, h.out, h.new⟩
theorem NI.vi (h : NI b okx W r X p k w wd v l N) : VI okx W X p := ⟨⟨_, _, _, _, h.box⟩, h.out, h.new⟩
theorem NI.cells (h : NI b okx W r X p k w wd v l N) : X.cell? ⟨p, 0, none⟩ = some (.int .u8 k) ∧ X.cell? ⟨p, 1, none⟩ = some (.int .u8 w) ∧ X.cell? ⟨p, 2, none⟩ = some (.int .i64 wd) ∧ X.cell? ⟨p, 3, none⟩ = some v := (zaB h.box).1
theorem S2.var {r' : Option Nat} {w2 : World} (h : S2 g A c lt ok okx W r X a) (hv : VI okx W X p) (hF : Fr g r' X w2) (hr : ∀ q, r' = some q → okx q) : w2.heap[p]? = X.heap[p]? :=
 hF.block p hv.zav (by have := hv.new; have := h.gW; omega) (fun e => hv.out (hr p e.symm))
theorem near_row (h : Near W r v) : ∀ q, v.ownBlock = some q → r = some q ∨ W.heap.size ≤ q := fun q hq => by
 rcases h with e | ⟨q', e, h'⟩
 ·exact .inl (by rw [← e, hq])
 ·rw [hq] at e; injection e with e; exact .inr q9
theorem zaF {u : Value} (h : Near W r v) (hs : W.heap.size ≤ X.heap.size) (hu : Near X v.ownBlock u) : Near W r u := by
 rcases hu with e | ⟨q, e, hq⟩
 ·rcases h with e2 | ⟨q, e2, hq⟩
  ·exact .inl (e.trans e2)
  ·exact .inr ⟨q, e.trans e2, hq⟩
 ·exact .inr ⟨q, e, q9⟩
theorem S2.ext {w2 : World} {a2 : Nat} (h : S2 g A c lt ok okx W r X a) (hn : NI b okx W r X p k w wd v l N) (hP : PS w2 g A c lt a2) (hF : Fr g v.ownBlock X w2) : S2 g A c lt ok okx W r w2 a2 :=
 ⟨hP, h.fr.trans hF (near_row hn.near), h.gW, h.hg, h.sub, fun q hq => h.fresh q (Nat.le_trans hF.size hq)⟩
theorem S2.put {k w wd : Int} {u : Value} (h : S2 g A c lt ok okx W r X a) (hv : VI okx W X p) : S2 g A c lt ok okx W r (putN X p k w wd u) a :=
 ⟨h.ps.keep (fun q hq => zbF (by have := hv.new; have := h.gW; omega)), putN_fr h.fr hv.new, h.gW, h.hg, h.sub, fun q hq => h.fresh q (by rw [putN_size] at hq; exact hq)⟩
theorem NI.put {k w wd : Int} {u : Value} {l : List S24} {N : Nat} (hv : VI okx W X p) (hN : NV b okx X k w wd u l N) (hu : Near W r u) : NI b okx W r (putN X p k w wd u) p k w wd u l N := by
 obtain ⟨z0, z1, z2, z3, h1⟩ := hv.at_; exact ⟨za7 h1, hN.step (fun q hq _ => zbF (fun e => hv.out (by rw [← e]; exact hq))), hu, hv.out, hv.new⟩
theorem VI.put {k w wd : Int} {u : Value} (hv : VI okx W X q) (hne : q ≠ p) : VI okx W (putN X p k w wd u) q := hv.same (zbF hne)
theorem NI.kept {N : Nat} (h : NI b okx W r X p k w wd v l N) (he : Y.heap[p]? = X.heap[p]?) (hN : NV b okx Y k w wd v l N) : NI b okx W r Y p k w wd v l N := ⟨he.trans h.box, hN, h.near, h.out, h.new⟩
theorem NI.more {N N' : Nat} (h : NI b okx W r X p k w wd v l N) (hN : N ≤ N') : NI b okx W r X p k w wd v l N' := ⟨h.box, h.nv.more hN, h.near, h.out, h.new⟩
theorem S2.ret {w2 : World} {a2 : Nat} (h : S2 g A c lt ok okx W r X a) (hP : PS w2 g A c lt a2) (hF : Fr g none X w2) : S2 g A c lt ok okx W r w2 a2 :=
 ⟨hP, h.fr.trans hF (fun q hq => by cases hq), h.gW, h.hg, h.sub, fun q hq => h.fresh q (Nat.le_trans hF.size hq)⟩
theorem NI.ret {w2 : World} (h : S2 g A c lt ok okx W r X a) (hn : NI b okx W r X p k w wd v l N) (hF : Fr g none X w2) : NI b okx W r w2 p k w wd v l N :=
 hn.kept (h.var hn.vi hF (fun q hq => by cases hq)) (hn.nv.step (fun q hq hl => hF.block q hl (by have := h.hg q (h.sub q hq); omega) qf))
theorem VI.ret {w2 : World} (h : S2 g A c lt ok okx W r X a) (hv : VI okx W X p) (hF : Fr g none X w2) : VI okx W w2 p := hv.same (h.var hv hF (fun q hq => by cases hq))
theorem S2.addps {w2 : World} (h : S2 g A c lt ok okx W r X a) (hn : NI b okx W r X p k w wd v l N) (hg2 : X.grownBy w2 v.ownBlock) : PS w2 g A c lt a :=
 h.ps.keep (fun q hq => hg2.block q (by have := h.ps.lt; omega) (fun e => by have := h.hg q (h.sub q (hn.nv.row.1 q e.symm)); omega))
theorem S2.done {wd : Int} {u : Value} {l : List S24} {N : Nat} (h : S2 g A c lt ok okx W r X a) (hv : VI okx W X p) (hN : NV b okx X k w wd u l N) (hu : Near W r u) : Ext g A c lt b ok W k w r a N (.returned (.agg #[.int .u8 k, .int .u8 w, .int .i64 wd, u])) (putN X p k w wd u) :=
 ⟨wd, u, l, rfl, (h.put hv).ps, ((NI.put (r := r) hv hN hu).nv).mono h.sub, (h.put hv).fr, hu⟩
theorem S2.start {X : World} (hP : PS W g A c lt a) (hN : NV b ok W k w wd v l N) (hg : ∀ q, ok q → g < q) (hf : ∀ q, W.heap.size ≤ q → ok q) (hX : X = (W.alloc (nodeO k w wd v)).alloc (nodeO 0 0 0 (.slice none 0 0))) :
  S2 g A c lt ok (okm ok W 2) W v.ownBlock X a ∧ NI b (okm ok W 2) W v.ownBlock X W.heap.size k w wd v l N ∧ VI (okm ok W 2) W X (W.heap.size + 1) := by
 obtain ⟨hs2, hb2, k0, k1⟩ := alloc2 hX; exact ⟨⟨hP.below hb2, Fr.of_below hb2, hP.lt, hg, fun q hq => hq.1, fun q hq => ⟨hf q q9, .inr q9⟩⟩,
  ⟨k0, hN.enter 2 hb2, .inl rfl, fun h => by have := h.2; omega, Nat.le_refl _⟩, ⟨⟨_, _, _, _, k1⟩, fun h => by have := h.2; omega, q9⟩⟩
def oky (okx : Nat → Prop) (p : Nat) (q : Nat) : Prop := okx q ∧ q ≠ p
theorem S2.newv {o : Obj} (h : S2 g A c lt ok okx W r X a) : S2 g A c lt ok (oky okx X.heap.size) W r (X.alloc o) a :=
 have hb : Below X.heap.size X (X.alloc o) := zad (Below.refl _ _) _
 ⟨h.ps.below hb, (h.below hb).fr, h.gW, h.hg, fun q hq => h.sub q hq.1, fun q hq => ⟨h.fresh q (by have := zbP X o; omega), by have := zbP X o; omega⟩⟩
theorem VI.newv {o : Obj} (h : VI okx W X p) : VI (oky okx X.heap.size) W (X.alloc o) p :=
 have h2 := h.below (Y := X.alloc o) (zad (Below.refl _ _) _)
 ⟨h2.at_, fun hq => h.out hq.1, h.new⟩
theorem NI.newv {o : Obj} (h : NI b okx W r X p k w wd v l N) : NI b (oky okx X.heap.size) W r (X.alloc o) p k w wd v l N :=
 have hb : Below X.heap.size X (X.alloc o) := zad (Below.refl _ _) _
 ⟨(h.below hb).box, (h.nv.bound.mono (ok' := oky okx X.heap.size) (fun q hq => ⟨hq.1, q9⟩)).step (fun q hq hl => hb.block q hl), h.near, fun hq => h.out hq.1, h.new⟩
theorem NI.new_ {k w wd : Int} {u : Value} {l : List S24} {N : Nat} (hs : W.heap.size ≤ X.heap.size) (hN : NV b okx X k w wd u l N) (hu : Near W r u) : NI b (oky okx X.heap.size) W r (X.alloc (nodeO k w wd u)) X.heap.size k w wd u l N :=
 have hb : Below X.heap.size X (X.alloc (nodeO k w wd u)) := zad (Below.refl _ _) _
 ⟨heap_alloc_new _ _, (hN.bound.mono (ok' := oky okx X.heap.size) (fun q hq => ⟨hq.1, q9⟩)).step (fun q hq hl => hb.block q hl), hu, fun hq => hq.2 rfl, hs⟩
end
def Ret (g : Nat) (A : Option Addr) (c : Nat) (lt : List S40) (W : World) (a N : Nat) (e : Ending) (W' : World) : Prop :=
 ∃ (k w wd : Int) (u : Value) (l : List S24), e = .returned (.agg #[.int .u8 k, .int .u8 w, .int .i64 wd, u]) ∧ PS W' g A c lt a ∧ NV W.heap.size (fun q => W.heap.size ≤ q) W' k w wd u l N ∧ Fr g none W W'
def CBegun (g : Nat) (A : Option Addr) (c : Nat) (lt : List S40) (a : Nat) : Prop := ∀ W, PS W g A c lt a → hd lt a < lt.length → Calls Try.prog 64 #[.pointer (some ⟨g, 0, none⟩)] W fun e W' => ∃ a', a < a' ∧ a' ≤ lt.length ∧ Ret g A c lt W a' (40 * (a' - a) - 10) e W'
def CLevel (g : Nat) (A : Option Addr) (c : Nat) (lt : List S40) (a : Nat) (j : Int) : Prop := ∀ W, PS W g A c lt a → hd lt a < lt.length → Calls Try.prog 73 #[.pointer (some ⟨g, 0, none⟩), .int .i64 j] W fun e W' => ∃ a', a < a' ∧ a' ≤ lt.length ∧ Ret g A c lt W a' (40 * (a' - a) - 20) e W'
def CExpr (g : Nat) (A : Option Addr) (c : Nat) (lt : List S40) (a : Nat) : Prop := ∀ (b : Nat) (ok : Nat → Prop) (W : World) (k w wd : Int) (v : Value) (l : List S24) (N : Nat), PS W g A c lt a → NV b ok W k w wd v l N → b ≤ W.heap.size → (∀ q, ok q → g < q) → (∀ q, W.heap.size ≤ q → ok q) → N + 40 * (lt.length - a) + 10 ≤ 900000 →
  Calls Try.prog 61 #[.pointer (some ⟨g, 0, none⟩), .agg #[.int .u8 k, .int .u8 w, .int .i64 wd, v]] W fun e W' => ∃ a', a ≤ a' ∧ a' ≤ lt.length ∧ Ext g A c lt b ok W k w v.ownBlock a' (N + 40 * (a' - a) + 1) e W'
def CInner (g : Nat) (A : Option Addr) (c : Nat) (lt : List S40) (a : Nat) : Prop := ∀ (b : Nat) (ok : Nat → Prop) (W : World) (k w wd : Int) (v : Value) (l : List S24) (N : Nat), PS W g A c lt a → NV b ok W k w wd v l N → b ≤ W.heap.size → (∀ q, ok q → g < q) → (∀ q, W.heap.size ≤ q → ok q) → cu lt a ≠ 0 → N + 40 * (lt.length - a) + 10 ≤ 900000 →
  Calls Try.prog 22 #[.pointer (some ⟨g, 0, none⟩), .agg #[.int .u8 k, .int .u8 w, .int .i64 wd, v]] W fun e W' => ∃ a', a < a' ∧ a' ≤ lt.length ∧ Ext g A c lt b ok W k w v.ownBlock a' (N + 40 * (a' - a)) e W'
theorem S2.start1 {g : Nat} {A : Option Addr} {c : Nat} {lt : List S40} {W X : World} {a : Nat} (hP : PS W g A c lt a) (hX : X = W.alloc (nodeO 0 0 0 (.slice none 0 0))) :
  S2 g A c lt (fun q => W.heap.size ≤ q) (oky (fun q => W.heap.size ≤ q) W.heap.size) W none X a ∧ VI (oky (fun q => W.heap.size ≤ q) W.heap.size) W X W.heap.size := by
 have hb : Below W.heap.size W X := by rw [hX]; exact zad (Below.refl _ _) _
 have hs : X.heap.size = W.heap.size + 1 := by rw [hX]; exact zbP _ _
 exact ⟨⟨hP.below hb, Fr.of_below hb, hP.lt, fun q hq => by have := hP.lt; omega, fun q hq => hq.1, fun q hq => ⟨q9, q9⟩⟩, ⟨⟨_, _, _, _, by rw [hX]; exact heap_alloc_new _ _⟩, fun h => h.2 rfl, Nat.le_refl _⟩⟩
def CUnary (g : Nat) (A : Option Addr) (c : Nat) (lt : List S40) (a : Nat) : Prop := ∀ W, PS W g A c lt a → hd lt a < lt.length → Calls Try.prog 77 #[.pointer (some ⟨g, 0, none⟩)] W fun e W' => ∃ a', a < a' ∧ a' ≤ lt.length ∧ Ret g A c lt W a' (40 * (a' - a) - 20) e W'
def CArgs (g : Nat) (A : Option Addr) (c : Nat) (lt : List S40) (a : Nat) : Prop := ∀ W, PS W g A c lt a → hd lt a < lt.length → Calls Try.prog 82 #[.pointer (some ⟨g, 0, none⟩)] W fun e W' => ∃ a', a < a' ∧ a' ≤ lt.length ∧ Ret g A c lt W a' (40 * (a' - a) - 20) e W'
def CPrimary (g : Nat) (A : Option Addr) (c : Nat) (lt : List S40) (a : Nat) : Prop := ∀ W, PS W g A c lt a → hd lt a < lt.length → Calls Try.prog 81 #[.pointer (some ⟨g, 0, none⟩)] W fun e W' => ∃ a', a < a' ∧ a' ≤ lt.length ∧ Ret g A c lt W a' (40 * (a' - a) - 20) e W'
def CStatement (g : Nat) (A : Option Addr) (c : Nat) (lt : List S40) (a : Nat) : Prop := ∀ W, PS W g A c lt a → (∃ r, zaC.f (cu lt a) = some r ∧ r ≠ 0) → Calls Try.prog 46 #[.pointer (some ⟨g, 0, none⟩)] W fun e W' => ∃ a', a < a' ∧ a' ≤ lt.length ∧ Ret g A c lt W a' (40 * (a' - a) - 10) e W'
theorem kid_nv {b : Nat} {okx : Nat → Prop} {X w2 : World} {k w wd : Int} {v : Value} {l : List S24} {N : Nat} (hV : NV X.heap.size (fun q => X.heap.size ≤ q) w2 k w wd v l N) (hb : b ≤ X.heap.size) (hf : ∀ q, X.heap.size ≤ q → okx q) {r : Option Nat} (hr : ∀ q, r = some q → q < X.heap.size) : NV b (fun q => okx q ∧ some q ≠ r) w2 k w wd v l N := by
 refine NV.mono ⟨?_, hV.kb, hV.wb, hV.lb, hV.wd, hV.size⟩ (fun q hq => ⟨hf q hq, fun e => by have := hr q e.symm; omega⟩)
 obtain ⟨h1, rows, h2, h3, h4⟩ := hV.row; exact ⟨h1, rows, h2, Kd.zbz h3 hb, h4⟩
theorem expr_tot (x : Int) : ∃ r, zaE.f x = some r := by
 unfold zaE.f
 repeat' split
 all_goals exact ⟨_, rfl⟩
theorem expr_ne {x : Int} (h : zaE.f x = some true) : x ≠ 0 := by
 intro e
 subst e; simp [zaE.f] at h
theorem expression_calls (g : Nat) (A : Option Addr) (c : Nat) (lt : List S40) (htk : TkOk lt) (a : Nat) (hbeg : CLevel g A c lt (hd lt a) 1) (b : Nat) (ok : Nat → Prop) (W : World) (k w wd : Int) (v : Value) (l : List S24) (N : Nat) (hP : PS W g A c lt a) (hN : NV b ok W k w wd v l N) (hb : b ≤ W.heap.size) (hg : ∀ q, ok q → g < q) (hf : ∀ q, W.heap.size ≤ q → ok q) (hs : N + 40 * (lt.length - a) + 10 ≤ 900000) :
  Calls Try.prog 61 #[.pointer (some ⟨g, 0, none⟩), .agg #[.int .u8 k, .int .u8 w, .int .i64 wd, v]] W fun e W' => ∃ a', a ≤ a' ∧ a' ≤ lt.length ∧ (zaE.f (cu lt a) = some true → a < a') ∧ Ext g A c lt b ok W k w v.ownBlock a' (if a' = a then N + 1 else N + 40 * (a' - a) - 19) e W' := by
 obtain ⟨AA, cc, rfl, hlc, hC⟩ := Kd.zaL hN.row; have HTO := J htk; have HBEG := J hbeg; have hle := hP.le; have hge := hd_ge lt a; have HHL := J (And.intro hge (hd_le hle)); clear htk hC hbeg; have hu := Try.underlying24; go_enter Try.func61, Try.ntmps61
 go_upto_region 1 with (fail)
 obtain ⟨X, hX⟩ : ∃ X, X = (W.alloc (nodeO k w wd (.slice AA l.length cc))).alloc (nodeO 0 0 0 (.slice none 0 0)) := ⟨_, rfl⟩; obtain ⟨h2, hn, hv⟩ := S2.start hP hN hg hf hX; change Code.wp Try.prog _ _ _ ((W.alloc (nodeO k w wd (.slice AA l.length cc))).alloc (nodeO 0 0 0 (.slice none 0 0)))
 rw [← hX]; generalize okm ok W 2 = okx at h2 hn hv
 have H2 := J h2; have HN := J hn; have HV := J hv; have HBW := J hb; clear h2 hn hv hX hP hN hg hf; have HKC := J (za5 g A c lt a X H2.out.ps); obtain ⟨q, hq⟩ : ∃ q, q = cu lt a := ⟨_, rfl⟩; rw [← hq] at HKC; have HQ := J hq; clear hq; obtain ⟨rr, hrr⟩ := expr_tot q; have HRR := J hrr; clear hrr; cases rr with
 | false =>
  go_upto_region 2 with (first | (go_at_call 21; refine HKC.out.mono ?_; rintro e w1 ⟨rfl, hb2⟩; have I1 := J (H2.out.below hb2); have IN1 := J (HN.out.below hb2); have IV1 := J (HV.out.below hb2); clear hb2 H2 HN HV HKC) | (go_at_call 59; refine (zaE.calls _ _ _ HRR.out).mono ?_; rintro e w2 ⟨rfl, hd2⟩; have hb2 := hd2.below; clear hd2; have I2 := J (I1.out.below hb2); have IN := J (IN1.out.below hb2); have IV := J (IV1.out.below hb2); clear hb2 I1 IN1 IV1))
  obtain ⟨x0, x1, x2, x3⟩ := IN.out.cells; go_wp2_with (go_at_call 72; refine (zbW g A c lt a b okx w2 k w wd _ l N 60 q9 I2.out.ps IN.out.nv (Nat.le_trans HBW.out I2.out.fr.size) (fun q hq => I2.out.hg q (I2.out.sub q hq)) I2.out.fresh q9).mono ?_; rintro e w3 ⟨wd1, u1, l1, rfl, h1, h2, h3, h4⟩; obtain ⟨A1, c1, rfl, _, _⟩ := Kd.zaL h2.row; have hv_ := IV.out.same (I2.out.var IV.out h3 (fun q hq => IN.out.nv.row.1 q hq)); have HEND := J ((I2.out.ext IN.out h1 h3).done hv_ h2 (zaF IN.out.near I2.out.fr.size h4)); obtain ⟨z0, z1, z2, z3, hz_⟩ := hv_.at_; have HZ := J hz_; have f0 := zab hz_ 0; have f1 := zab hz_ 1; have f2 := zab hz_ 2; have f3 := zab hz_ 3; obtain ⟨⟨d0, d1, d2, d3⟩, dl⟩ := zaB hz_; clear h1 h2 h3 h4 hv_ hz_ x0 x1 x2 x3)
  refine bodyPost_ret (zaM (r := .cell 4 24) rfl (.cell (W.heap.size + 1) 24 _ (0, 0) _ rfl (za7 HZ.out) Try.underlying24 rfl qb .nil)) rfl ?_
  refine ⟨a, Nat.le_refl _, q9, fun h => (by rw [← HQ.out, HRR.out] at h; cases h), ?_⟩
  rw [if_pos rfl]; exact HEND.out
 | true =>
  have HLT := J (cu_lt (l := lt) (a := a) (by rw [← HQ.out]; exact expr_ne HRR.out))
  go_upto_region 3 with (first | (go_at_call 21; refine HKC.out.mono ?_; rintro e w1 ⟨rfl, hb2⟩; have I1 := J (H2.out.below hb2); have IN1 := J (HN.out.below hb2); have IV1 := J (HV.out.below hb2); clear hb2 H2 HN HV HKC) | (go_at_call 59; refine (zaE.calls _ _ _ HRR.out).mono ?_; rintro e w2 ⟨rfl, hd2⟩; have hb2 := hd2.below; clear hd2; have I2 := J (I1.out.below hb2); have IN := J (IN1.out.below hb2); have IV := J (IV1.out.below hb2); clear hb2 I1 IN1 IV1))
  obtain ⟨x0, x1, x2, x3⟩ := IN.out.cells; go_upto_region 4 with (go_at_call 23; refine (zbU g A c lt HTO.out a b okx w2 k w wd _ l N I2.out.ps IN.out.nv (Nat.le_trans HBW.out I2.out.fr.size) (fun q hq => I2.out.hg q (I2.out.sub q hq)) I2.out.fresh qI).mono ?_; rintro e w3 ⟨wd1, u1, l1, rfl, h1, h2, h3, h4⟩; obtain ⟨A1, c1, rfl, _, _⟩ := Kd.zaL h2.row; have hp_ := IN.out.vi.same (I2.out.var IN.out.vi h3 (fun q hq => IN.out.nv.row.1 q hq)); have J2 := J ((I2.out.ext IN.out h1 h3).put (k := k) (w := w) (wd := wd1) (u := .slice A1 l1.length c1) hp_); have JN := J (NI.put hp_ h2 (zaF IN.out.near I2.out.fr.size h4)); have hv_ := IV.out.same (I2.out.var IV.out h3 (fun q hq => IN.out.nv.row.1 q hq)); have JV := J (hv_.put (p := W.heap.size) (k := k) (w := w) (wd := wd1) (u := .slice A1 l1.length c1) q9); clear hv_; obtain ⟨z0, z1, z2, z3, hz_⟩ := hp_.at_; have f0 := zab hz_ 0; have f1 := zab hz_ 1; have f2 := zab hz_ 2; have f3 := zab hz_ 3; obtain ⟨⟨d0, d1, d2, d3⟩, dl⟩ := zaB hz_; clear h1 h2 h3 h4 hp_ hz_ x0 x1 x2 x3 I2 IN IV)
  obtain ⟨X1, hX1⟩ : ∃ X1, X1 = putN w3 W.heap.size k w wd1 (.slice A1 l1.length c1) := ⟨_, rfl⟩; rw [← hX1] at J2 JN JV; simp only [putN] at hX1; rw [← hX1]; clear hX1 f0 f1 f2 f3 d0 d1 d2 d3 dl; obtain ⟨x0, x1, x2, x3⟩ := JN.out.cells; obtain ⟨N1, hN1⟩ : ∃ N1, N1 = N + (hd lt a - a) := ⟨_, rfl⟩; rw [← hN1] at JN; have HN1 := J hN1; clear hN1; go_upto_region 5 with (go_at_call 44; refine (taken_calls g A c lt (hd lt a) b okx X1 k w wd1 _ l1 N1 60 J2.out.ps JN.out.nv (fun q hq => J2.out.hg q (J2.out.sub q hq))).mono ?_; rintro e w4 ⟨rfl, h1, h2, h3⟩; have K2 := J (J2.out.ext JN.out h1 h3); have KN := J (JN.out.kept (J2.out.var JN.out.vi h3 (fun q hq => JN.out.nv.row.1 q hq)) h2); have KV := J (JV.out.same (J2.out.var JV.out h3 (fun q hq => JN.out.nv.row.1 q hq))); clear h1 h2 h3 x0 x1 x2 x3 J2 JN JV)
  have n_ := J (K2.out.newv (o := nodeO k w wd1 (.slice A1 l1.length c1))); clear K2; have K2 := n_; clear n_; have n_ := J (KN.out.newv (o := nodeO k w wd1 (.slice A1 l1.length c1))); clear KN; have KN := n_; clear n_; have n_ := J (KV.out.newv (o := nodeO k w wd1 (.slice A1 l1.length c1))); clear KV; have KV := n_; clear n_; obtain ⟨Y, hX1⟩ : ∃ X1, X1 = w4.alloc (nodeO k w wd1 (.slice A1 l1.length c1)) := ⟨_, rfl⟩; rw [← hX1] at K2 KN KV; change Code.wp Try.prog _ _ _ (w4.alloc (nodeO k w wd1 (.slice A1 l1.length c1)))
  rw [← hX1]; clear hX1; obtain ⟨x0, x1, x2, x3⟩ := KN.out.cells; have HSZ := J (show N1 + 40 * (lt.length - hd lt a) ≤ 899990 by have := HN1.out; have := HHL.out; omega)
  go_upto_region 7 with (fail)
  clear x0 x1 x2 x3; have D2 := J (K2.out.below (Y := Y.drew) (Below.refl _ _).drew); have DN := J (KN.out.below (Y := Y.drew) (Below.refl _ _).drew); have DV := J (KV.out.below (Y := Y.drew) (Below.refl _ _).drew); have HS0 := J DN.out.cells; clear K2 KN KV; refine wp_region_noPanic (zba [0, 1, 2, 3, 4, 5] (fun W' => W'.cell? ⟨W.heap.size, 0, none⟩ = some (.int .u8 k) ∧ W'.cell? ⟨W.heap.size, 1, none⟩ = some (.int .u8 w) ∧ W'.cell? ⟨W.heap.size, 2, none⟩ = some (.int .i64 wd1) ∧ W'.cell? ⟨W.heap.size, 3, none⟩ = some (.slice A1 l1.length c1)) qb ?_)
  refine zah 0 rfl HS0.out (fun _ h => qj) ?_
  simp only [Act.put, zai]; refine zah 1 rfl HS0.out (fun _ h => qj) ?_
  simp only [Act.put, zai]; refine zah 2 rfl HS0.out (fun _ h => qj) ?_
  simp only [Act.put, zai]; refine zaI (i := 3) rfl qb (fun K hK => ?_)
  go_simp
  refine (HBEG.out Y.drew D2.out.ps (by rw [hd_hd]; exact HLT.out)).mono ?_
  rintro e w5 ⟨a9, hlo, hhi, k9, w9, wd9, u9, l9, rfl, p1, p2, p3⟩
  obtain ⟨kA, kc, rfl, _, _⟩ := Kd.zaL p2.row; have E2 := J (D2.out.ret p1 p3); have EN := J (NI.ret D2.out DN.out p3); have EV := J (VI.ret D2.out DV.out p3); have HP2 := J p2; have HS1 := J EN.out.cells; have HSW := J p3.size; clear p1 p2 p3; refine hK.out _ _ (fun _ => HS1.out) (fun _ => ?_)
  clear hK K; try simp only [Act.put, zai]
  refine zaI (i := 4) rfl qb (fun K hK => ?_)
  go_simp
  refine (zb0 Y.drew.heap.size (fun q => Y.drew.heap.size ≤ q) w5 60 0 0 (.slice none 0 0) [] 1 _ _ _ _ _ (40 * (a9 - hd lt a) - 20) (NV.leaf q9 q9 q9 (Nat.le_refl _)) (show Y.drew.heap.size ≤ w5.heap.size from HSW.out) (fun q hq => Nat.le_trans HSW.out hq) (HP2.out.mono (fun q hq => ⟨hq, qR⟩)) qG).mono ?_
  rintro e w7 ⟨wd7, u7, l7, rfl, h1, h2, h3⟩
  obtain ⟨A7, c7, rfl, _, _⟩ := Kd.zaL h1.row; have hfr : Fr g none w5 w7 := Fr.zaX h2; have G2 := J (E2.out.ret (E2.out.ps.keep (fun q hq => h2.block q (by have := E2.out.ps.lt; omega) qR)) hfr)
  have GN := J (NI.ret E2.out EN.out hfr); have GV := J (VI.ret E2.out EV.out hfr); have HKID := J (kid_nv (b := b) (okx := (oky okx w4.heap.size)) h1 (Nat.le_trans HBW.out D2.out.fr.size) D2.out.fresh (fun q hq => Kd.N_lt DN.out.nv.row q hq))
  have HS3 := J GN.out.cells; clear h1 h2 h3 hfr E2 EN EV; have E2 := G2; have EN := GN; have EV := GV; clear G2 GN GV; refine hK.out _ _ (fun _ => HS3.out) (fun _ => ?_)
  clear hK K; try simp only [Act.put, zai]
  refine zaI (i := 5) rfl qb (fun K hK => ?_)
  go_simp
  refine (zb0 b (oky okx w4.heap.size) w7 k w wd1 _ l1 N1 _ _ _ _ _ _ EN.out.nv (Nat.le_trans HBW.out E2.out.fr.size) E2.out.fresh HKID.out qG).mono ?_
  rintro e w6 ⟨wd6, u6, l6, rfl, h1, h2, h3⟩
  obtain ⟨A6, c6, rfl, _, _⟩ := Kd.zaL h1.row; have F2 := J (E2.out.ext EN.out (E2.out.addps EN.out h2) (Fr.zaX h2)); have hv_ := EV.out.same (E2.out.var EV.out (Fr.zaX h2) (fun q hq => EN.out.nv.row.1 q hq))
  have FN := J (EN.out.vi.same (E2.out.var EN.out.vi (Fr.zaX h2) (fun q hq => EN.out.nv.row.1 q hq)))
  have HS2 := J ((zaB ((E2.out.var EN.out.vi (Fr.zaX h2) (fun q hq => EN.out.nv.row.1 q hq)).trans EN.out.box)).1)
  have HEND := J (F2.out.done hv_ h1 (zaF EN.out.near E2.out.fr.size h3)); obtain ⟨z0, z1, z2, z3, hz_⟩ := hv_.at_; have HZ := J hz_; have f0 := zab hz_ 0; have f1 := zab hz_ 1; have f2 := zab hz_ 2; have f3 := zab hz_ 3; obtain ⟨⟨d0, d1, d2, d3⟩, dl⟩ := zaB hz_
  clear h1 h2 h3 hv_ hz_; refine hK.out _ _ (fun _ => HS2.out) (fun _ => ?_)
  clear hK K; try simp only [Act.put, zai]
  refine zaI (i := 6) rfl qb (fun K hK => ?_)
  go_simp
  refine hK.out _ _ (fun h => Bool.noConfusion (show false = true from h)) (fun _ => ?_)
  clear hK K; try simp only [Act.put, zai]
  refine za3 qb (NoPanic.normal ?_) _
  clear d0 d1 d2 d3 dl f0 f1 f2 f3; go_wp2
  refine bodyPost_ret (zaM (r := .cell 4 24) rfl (.cell (W.heap.size + 1) 24 _ (0, 0) _ rfl (za7 HZ.out) Try.underlying24 rfl qb .nil)) rfl ?_
  refine ⟨a9, qI, hhi, fun _ => qI, ?_⟩
  rw [if_neg qI]
  obtain ⟨wd8, u8, l8, e1, e2, e3, e4, e5⟩ := HEND.out; exact ⟨wd8, u8, l8, e1, e2, e3.more qZ, e4, e5⟩
theorem stmt_tot (x : Int) : ∃ r, zaC.f x = some r := by
 obtain ⟨r, hr⟩ := expr_tot x; unfold zaC.f
 rw [hr]; cases r <;> repeat' split
 all_goals first | exact ⟨_, rfl⟩ | simp
theorem stmt_ne {x r : Int} (h : zaC.f x = some r) (hr : r ≠ 0) : x ≠ 0 := by
 intro e
 subst e; simp [zaC.f, zaE.f] at h; exact hr h.symm
theorem S2.startv {g : Nat} {A : Option Addr} {c : Nat} {lt : List S40} {V : World} {a : Nat} {o : Obj} (hP : PS V g A c lt a) : S2 g A c lt (fun q => V.heap.size ≤ q) (oky (fun q => V.heap.size ≤ q) V.heap.size) V none (V.alloc o) a := by
 have hb : Below V.heap.size V (V.alloc o) := zad (Below.refl _ _) _; have hs : (V.alloc o).heap.size = V.heap.size + 1 := zbP _ _; exact ⟨hP.below hb, Fr.of_below hb, hP.lt, fun q hq => by have := hP.lt; omega, fun q hq => hq.1, fun q hq => ⟨q9, q9⟩⟩
theorem inner_calls (g : Nat) (A : Option Addr) (c : Nat) (lt : List S40) (htk : TkOk lt) (a : Nat) (hst : CStatement g A c lt (hd lt a)) (b : Nat) (ok : Nat → Prop) (W : World) (k w wd : Int) (v : Value) (l : List S24) (N : Nat) (hP : PS W g A c lt a) (hN : NV b ok W k w wd v l N) (hb : b ≤ W.heap.size) (hg : ∀ q, ok q → g < q) (hf : ∀ q, W.heap.size ≤ q → ok q) (hcu : cu lt a ≠ 0) (hs : N + 40 * (lt.length - a) + 10 ≤ 900000) :
  Calls Try.prog 22 #[.pointer (some ⟨g, 0, none⟩), .agg #[.int .u8 k, .int .u8 w, .int .i64 wd, v]] W fun e W' => ∃ a', a < a' ∧ a' ≤ lt.length ∧ Ext g A c lt b ok W k w v.ownBlock a' (N + 40 * (a' - a)) e W' := by
 obtain ⟨AA, cc, rfl, hlc, hC⟩ := Kd.zaL hN.row; have HTO := J htk; have HST := J hst; have hle := hP.le; have hge := hd_ge lt a; have HLT := J (cu_lt (l := lt) (a := a) hcu); have HLEN := J hP.len; have HHL := J (And.intro hge (hd_le hle)); clear htk hC hst hcu; have hu := Try.underlying24; go_enter Try.func22, Try.ntmps22
 go_upto_region 1 with (fail)
 obtain ⟨X, hX⟩ : ∃ X, X = (W.alloc (nodeO k w wd (.slice AA l.length cc))).alloc (nodeO 0 0 0 (.slice none 0 0)) := ⟨_, rfl⟩; obtain ⟨h2, hn, hv⟩ := S2.start hP hN hg hf hX; change Code.wp Try.prog _ _ _ ((W.alloc (nodeO k w wd (.slice AA l.length cc))).alloc (nodeO 0 0 0 (.slice none 0 0)))
 rw [← hX]; generalize okm ok W 2 = okx at h2 hn hv
 have I2 := J h2; have IN := J hn; have IV := J hv; have HBW := J hb; clear h2 hn hv hX hP hN hg hf; obtain ⟨x0, x1, x2, x3⟩ := IN.out.cells; go_upto_region 2 with (go_at_call 23; refine (zbU g A c lt HTO.out a b okx X k w wd _ l N I2.out.ps IN.out.nv (Nat.le_trans HBW.out I2.out.fr.size) (fun q hq => I2.out.hg q (I2.out.sub q hq)) I2.out.fresh qI).mono ?_; rintro e w3 ⟨wd1, u1, l1, rfl, h1, h2, h3, h4⟩; obtain ⟨A1, c1, rfl, _, _⟩ := Kd.zaL h2.row; have hp_ := IN.out.vi.same (I2.out.var IN.out.vi h3 (fun q hq => IN.out.nv.row.1 q hq)); have J2 := J ((I2.out.ext IN.out h1 h3).put (k := k) (w := w) (wd := wd1) (u := .slice A1 l1.length c1) hp_); have JN := J (NI.put hp_ h2 (zaF IN.out.near I2.out.fr.size h4)); have hv_ := IV.out.same (I2.out.var IV.out h3 (fun q hq => IN.out.nv.row.1 q hq)); have JV := J (hv_.put (p := W.heap.size) (k := k) (w := w) (wd := wd1) (u := .slice A1 l1.length c1) q9); clear hv_; obtain ⟨z0, z1, z2, z3, hz_⟩ := hp_.at_; have f0 := zab hz_ 0; have f1 := zab hz_ 1; have f2 := zab hz_ 2; have f3 := zab hz_ 3; obtain ⟨⟨d0, d1, d2, d3⟩, dl⟩ := zaB hz_; clear h1 h2 h3 h4 hp_ hz_ x0 x1 x2 x3 I2 IN IV)
 obtain ⟨X1, hX1⟩ : ∃ X1, X1 = putN w3 W.heap.size k w wd1 (.slice A1 l1.length c1) := ⟨_, rfl⟩; rw [← hX1] at J2 JN JV; simp only [putN] at hX1; rw [← hX1]; clear hX1 f0 f1 f2 f3 d0 d1 d2 d3 dl; obtain ⟨N1, hN1⟩ : ∃ N1, N1 = N + (hd lt a - a) := ⟨_, rfl⟩; rw [← hN1] at JN; have HN1 := J hN1; clear hN1; have HSZ := J (show N1 + 40 * (lt.length - hd lt a) ≤ 899990 by have := HN1.out; have := HHL.out; omega)
 have HKC := J (za5 g A c lt (hd lt a) X1 J2.out.ps); have HCU := J (cu_hd lt a); obtain ⟨a1, ha1⟩ : ∃ a1, a1 = hd lt a := ⟨_, rfl⟩; have HHD := J (show hd lt a1 = a1 by rw [ha1]; exact hd_hd lt a)
 rw [← ha1] at J2 HKC HST HLT HHL HN1 HSZ HCU; clear ha1; obtain ⟨q, hq⟩ : ∃ q, q = cu lt a1 := ⟨_, rfl⟩; rw [← hq] at HKC; have HQ := J hq; clear hq; obtain ⟨rr, hrr⟩ := stmt_tot q; have HRR := J hrr; clear hrr; by_cases hr0 : rr = 0
 case neg =>
  have d0 : (rr != 0) = true := by simp [hr0]
  have HR0 := J (show ∃ r, zaC.f (cu lt a1) = some r ∧ r ≠ 0 from ⟨rr, by rw [← HQ.out]; exact HRR.out, hr0⟩)
  clear hr0; go_upto_region 3 with (first | (go_at_call 21; refine HKC.out.mono ?_; rintro e w1 ⟨rfl, hb2⟩; have I1 := J (J2.out.below hb2); have IN1 := J (JN.out.below hb2); have IV1 := J (JV.out.below hb2); clear hb2 J2 JN JV HKC) | (go_at_call 43; refine (zaC.calls _ _ _ HRR.out).mono ?_; rintro e w2 ⟨rfl, hd2⟩; have hb2 := hd2.below; clear hd2; have I2 := J (I1.out.below hb2); have IN := J (IN1.out.below hb2); have IV := J (IV1.out.below hb2); clear hb2 I1 IN1 IV1))
  obtain ⟨x0, x1, x2, x3⟩ := IN.out.cells; go_upto_region 4 with (go_at_call 44; refine (taken_calls g A c lt a1 b okx w2 k w wd1 _ l1 N1 59 I2.out.ps IN.out.nv (fun q hq => I2.out.hg q (I2.out.sub q hq))).mono ?_; rintro e w4 ⟨rfl, h1, h2, h3⟩; have K2 := J (I2.out.ext IN.out h1 h3); have KN := J (IN.out.kept (I2.out.var IN.out.vi h3 (fun q hq => IN.out.nv.row.1 q hq)) h2); have KV := J (IV.out.same (I2.out.var IV.out h3 (fun q hq => IN.out.nv.row.1 q hq))); clear h1 h2 h3 x0 x1 x2 x3 I2 IN IV)
  have n_ := J (K2.out.newv (o := nodeO k w wd1 (.slice A1 l1.length c1))); clear K2; have K2 := n_; clear n_; have n_ := J (KN.out.newv (o := nodeO k w wd1 (.slice A1 l1.length c1))); clear KN; have KN := n_; clear n_; have n_ := J (KV.out.newv (o := nodeO k w wd1 (.slice A1 l1.length c1))); clear KV; have KV := n_; clear n_; obtain ⟨Y, hX1⟩ : ∃ X1, X1 = w4.alloc (nodeO k w wd1 (.slice A1 l1.length c1)) := ⟨_, rfl⟩; rw [← hX1] at K2 KN KV; change Code.wp Try.prog _ _ _ (w4.alloc (nodeO k w wd1 (.slice A1 l1.length c1)))
  rw [← hX1]; clear hX1; obtain ⟨x0, x1, x2, x3⟩ := KN.out.cells; go_upto_region 6 with (fail)
  clear x0 x1 x2 x3; have D2 := J (K2.out.below (Y := Y.drew) (Below.refl _ _).drew); have DN := J (KN.out.below (Y := Y.drew) (Below.refl _ _).drew); have DV := J (KV.out.below (Y := Y.drew) (Below.refl _ _).drew); have HS0 := J DN.out.cells; clear K2 KN KV; refine wp_region_noPanic (zba [0, 1, 2, 3] (fun W' => W'.cell? ⟨W.heap.size, 0, none⟩ = some (.int .u8 k) ∧ W'.cell? ⟨W.heap.size, 1, none⟩ = some (.int .u8 w) ∧ W'.cell? ⟨W.heap.size, 2, none⟩ = some (.int .i64 wd1) ∧ W'.cell? ⟨W.heap.size, 3, none⟩ = some (.slice A1 l1.length c1)) qb ?_)
  refine zah 0 rfl HS0.out (fun _ h => qj) ?_
  simp only [Act.put, zai]; refine zah 1 rfl HS0.out (fun _ h => qj) ?_
  simp only [Act.put, zai]; refine zaI (i := 2) rfl qb (fun K hK => ?_)
  go_simp
  refine (HST.out Y.drew D2.out.ps HR0.out).mono ?_
  rintro e w5 ⟨a9, hlo, hhi, k9, w9, wd9, u9, l9, rfl, p1, p2, p3⟩
  obtain ⟨kA, kc, rfl, _, _⟩ := Kd.zaL p2.row; have E2 := J (D2.out.ret p1 p3); have EN := J (NI.ret D2.out DN.out p3); have EV := J (VI.ret D2.out DV.out p3); have HKID := J (kid_nv (b := b) (okx := (oky okx w4.heap.size)) p2 (Nat.le_trans HBW.out D2.out.fr.size) D2.out.fresh (fun q hq => Kd.N_lt DN.out.nv.row q hq))
  have HS1 := J EN.out.cells; clear p1 p2 p3; refine hK.out _ _ (fun _ => HS1.out) (fun _ => ?_)
  clear hK K; try simp only [Act.put, zai]
  refine zaI (i := 3) rfl qb (fun K hK => ?_)
  go_simp
  refine (zb0 b (oky okx w4.heap.size) w5 k w wd1 _ l1 N1 _ _ _ _ _ _ EN.out.nv (Nat.le_trans HBW.out E2.out.fr.size) E2.out.fresh HKID.out qG).mono ?_
  rintro e w6 ⟨wd6, u6, l6, rfl, h1, h2, h3⟩
  obtain ⟨A6, c6, rfl, _, _⟩ := Kd.zaL h1.row; have F2 := J (E2.out.ext EN.out (E2.out.addps EN.out h2) (Fr.zaX h2)); have hv_ := EV.out.same (E2.out.var EV.out (Fr.zaX h2) (fun q hq => EN.out.nv.row.1 q hq))
  have FN := J (EN.out.vi.same (E2.out.var EN.out.vi (Fr.zaX h2) (fun q hq => EN.out.nv.row.1 q hq)))
  have HS2 := J ((zaB ((E2.out.var EN.out.vi (Fr.zaX h2) (fun q hq => EN.out.nv.row.1 q hq)).trans EN.out.box)).1)
  have HEND := J (F2.out.done hv_ h1 (zaF EN.out.near E2.out.fr.size h3)); obtain ⟨z0, z1, z2, z3, hz_⟩ := hv_.at_; have HZ := J hz_; have f0 := zab hz_ 0; have f1 := zab hz_ 1; have f2 := zab hz_ 2; have f3 := zab hz_ 3; obtain ⟨⟨d0, d1, d2, d3⟩, dl⟩ := zaB hz_
  clear h1 h2 h3 hv_ hz_; refine hK.out _ _ (fun _ => HS2.out) (fun _ => ?_)
  clear hK K; try simp only [Act.put, zai]
  refine zaI (i := 4) rfl qb (fun K hK => ?_)
  go_simp
  refine hK.out _ _ (fun h => Bool.noConfusion (show false = true from h)) (fun _ => ?_)
  clear hK K; try simp only [Act.put, zai]
  refine za3 qb (NoPanic.normal ?_) _
  clear d0 d1 d2 d3 dl f0 f1 f2 f3; go_wp2
  refine bodyPost_ret (zaM (r := .cell 4 24) rfl (.cell (W.heap.size + 1) 24 _ (0, 0) _ rfl (za7 HZ.out) Try.underlying24 rfl qb .nil)) rfl ?_
  refine ⟨a9, qI, hhi, ?_⟩
  obtain ⟨wd8, u8, l8, e1, e2, e3, e4, e5⟩ := HEND.out; exact ⟨wd8, u8, l8, e1, e2, e3.more qZ, e4, e5⟩
 case pos =>
  have d0 : (rr != 0) = false := by simp [hr0]
  clear hr0; go_upto_region 7 with (first | (go_at_call 21; refine HKC.out.mono ?_; rintro e w1 ⟨rfl, hb2⟩; have I1 := J (J2.out.below hb2); have IN1 := J (JN.out.below hb2); have IV1 := J (JV.out.below hb2); clear hb2 J2 JN JV HKC) | (go_at_call 43; refine (zaC.calls _ _ _ HRR.out).mono ?_; rintro e w3 ⟨rfl, hd2⟩; have hb2 := hd2.below; clear hd2; have K2 := J (I1.out.below hb2); have KN := J (IN1.out.below hb2); have KV := J (IV1.out.below hb2); clear hb2 I1 IN1 IV1))
  go_upto_region 8 with (fail)
  have M2_ := J (S2.startv (o := nodeO 68 0 0 (.slice none 0 0)) K2.out.ps); have MN_ := J (NI.new_ (b := w3.heap.size) (okx := fun q => w3.heap.size ≤ q) (W := w3) (r := none) (X := w3) (N := 1) (Nat.le_refl _) (NV.leaf (k := 68) (w := 0) (wd := 0) q9 q9 q9 (Nat.le_refl _)) (.inl rfl))
  obtain ⟨Z, hZ⟩ : ∃ Z, Z = w3.alloc (nodeO 68 0 0 (.slice none 0 0)) := ⟨_, rfl⟩; rw [← hZ] at M2_ MN_; change Code.wp Try.prog _ _ _ (w3.alloc (nodeO 68 0 0 (.slice none 0 0)))
  rw [← hZ]; clear hZ; go_loopg [] (lt.length - a1) (fun kq w' => ∃ (ai : Nat) (wdi : Int) (vi : Value) (li : List S24), a1 ≤ ai ∧ ai ≤ lt.length ∧ zaa (kq = lt.length - ai) ∧ zaa (hd lt ai < lt.length) ∧ zaa (S2 g A c lt (fun q => w3.heap.size ≤ q) (oky (fun q => w3.heap.size ≤ q) w3.heap.size) w3 none w' ai) ∧ zaa (NI w3.heap.size (oky (fun q => w3.heap.size ≤ q) w3.heap.size) w3 none w' w3.heap.size 68 0 wdi vi li (1 + (ai - a1))))
  case atStart => exact ⟨a1, 0, _, _, Nat.le_refl _, qI, ⟨rfl⟩, ⟨by rw [HHD.out]; exact HLT.out⟩, M2_, ⟨MN_.out.more q9⟩⟩
  case round =>
   obtain ⟨ai, wdi, vi, li, hai, hail, HK, HLI, M2, MN⟩ := hrel; obtain ⟨Ai, ci, rfl, _, _⟩ := Kd.zaL MN.out.nv.row; have HKC := J (za5 g A c lt ai wr M2.out.ps); obtain ⟨q1, hq1⟩ : ∃ q1, q1 = cu lt ai := ⟨_, rfl⟩; rw [← hq1] at HKC; clear hq1; go_upto_region 9 with (go_at_call 21; refine HKC.out.mono ?_; rintro e w7 ⟨rfl, hb2⟩; have O2 := J (M2.out.below hb2); have ON := J (MN.out.below hb2); clear hb2 M2 MN HKC)
   obtain ⟨x0, x1, x2, x3⟩ := ON.out.cells; go_upto_region 10 with (go_at_call 47; refine (zbq g A c lt HTO.out ai w3.heap.size (oky (fun q => w3.heap.size ≤ q) w3.heap.size) w7 68 0 wdi _ li (1 + (ai - a1)) O2.out.ps ON.out.nv O2.out.fr.size (fun q hq => O2.out.hg q (O2.out.sub q hq)) O2.out.fresh HLI.out Qk).mono ?_; rintro e w8 ⟨wd4, u4, l4, rfl, h1, h2, h3, h4⟩; obtain ⟨A4, c4, rfl, _, _⟩ := Kd.zaL h2.row; have hp_ := ON.out.vi.same (O2.out.var ON.out.vi h3 (fun q hq => ON.out.nv.row.1 q hq)); have Q2 := J ((O2.out.ext ON.out h1 h3).put (k := 68) (w := 0) (wd := wd4) (u := .slice A4 l4.length c4) hp_); have QN := J (NI.put hp_ h2 (zaF ON.out.near O2.out.fr.size h4)); obtain ⟨z0, z1, z2, z3, hz_⟩ := hp_.at_; have f0 := zab hz_ 0; have f1 := zab hz_ 1; have f2 := zab hz_ 2; have f3 := zab hz_ 3; obtain ⟨⟨d0, d1, d2, d3⟩, dl⟩ := zaB hz_; clear h1 h2 h3 h4 hp_ hz_ x0 x1 x2 x3 O2 ON )
   obtain ⟨X4, hX1⟩ : ∃ X1, X1 = putN w8 w3.heap.size 68 0 wd4 (.slice A4 l4.length c4) := ⟨_, rfl⟩; rw [← hX1] at Q2 QN; simp only [putN] at hX1; rw [← hX1]; clear hX1 f0 f1 f2 f3 d0 d1 d2 d3 dl; obtain ⟨aj, haj⟩ : ∃ aj, aj = hd lt ai + 1 := ⟨_, rfl⟩; have hge2 := hd_ge lt ai; have hajl : aj ≤ lt.length := by have := HLI.out; omega
   have haji : ai < aj := by omega
   have n_ := J (QN.out.more (N' := 1 + (aj - a1)) q9)
   rw [← haj] at Q2; clear QN haj hge2; have QN := n_; clear n_; have HKC := J (za5 g A c lt aj X4 Q2.out.ps); obtain ⟨q2, hq2⟩ : ∃ q2, q2 = cu lt aj := ⟨_, rfl⟩; rw [← hq2] at HKC; have HQ2 := J hq2; clear hq2; go_upto_region 11 with (go_at_call 21; refine HKC.out.mono ?_; rintro e w9 ⟨rfl, hb2⟩; have S2_ := J (Q2.out.below hb2); have SN := J (QN.out.below hb2); clear hb2 Q2 QN HKC)
   by_cases c1_ : q1 = 23
   ·have d1_ : (q1 == 23) = true := by simp [c1_]
    clear c1_; have E2 := J (K2.out.ret S2_.out.ps S2_.out.fr); have EN := J (NI.ret K2.out KN.out S2_.out.fr); have EV := J (VI.ret K2.out KV.out S2_.out.fr); have HKID := J (kid_nv (b := b) (okx := okx) (SN.out.nv.mono (fun q hq => hq.1)) (Nat.le_trans HBW.out K2.out.fr.size) K2.out.fresh (fun q hq => Kd.N_lt KN.out.nv.row q hq))
    obtain ⟨x0, x1, x2, x3⟩ := SN.out.cells; obtain ⟨y0, y1, y2, y3⟩ := EN.out.cells; clear S2_ SN K2 KN KV; go_wp2_with (go_at_call 45; refine (zb0 b okx _ k w wd1 _ l1 N1 _ _ _ _ _ _ EN.out.nv (Nat.le_trans HBW.out E2.out.fr.size) E2.out.fresh HKID.out qG).mono ?_; rintro e w11 ⟨wd6, u6, l6, rfl, h1, h2, h3⟩; obtain ⟨A6, c6, rfl, _, _⟩ := Kd.zaL h1.row; have F2 := J (E2.out.ext EN.out (E2.out.addps EN.out h2) (Fr.zaX h2)); have hv_ := EV.out.same (E2.out.var EV.out (Fr.zaX h2) (fun q hq => EN.out.nv.row.1 q hq)); have HEND := J (F2.out.done hv_ h1 (zaF EN.out.near E2.out.fr.size h3)); obtain ⟨z0, z1, z2, z3, hz_⟩ := hv_.at_; have HZ := J hz_; have f0 := zab hz_ 0; have f1 := zab hz_ 1; have f2 := zab hz_ 2; have f3 := zab hz_ 3; obtain ⟨⟨d0, d1, d2, d3⟩, dl⟩ := zaB hz_; clear h1 h2 h3 hv_ hz_ x0 x1 x2 x3 y0 y1 y2 y3)
    refine bodyPost_ret (zaM (r := .cell 4 24) rfl (.cell (W.heap.size + 1) 24 _ (0, 0) _ rfl (za7 HZ.out) Try.underlying24 rfl qb .nil)) rfl ?_
    refine ⟨aj, qI, hajl, ?_⟩
    obtain ⟨wd8, u8, l8, e1, e2, e3, e4, e5⟩ := HEND.out; exact ⟨wd8, u8, l8, e1, e2, e3.more qZ, e4, e5⟩
   have d1_ : (q1 == 23) = false := by simp [c1_]
   by_cases c2_ : q1 = 25
   ·have d2_ : (q1 == 25) = true := by simp [c2_]
    clear c1_ c2_; have E2 := J (K2.out.ret S2_.out.ps S2_.out.fr); have EN := J (NI.ret K2.out KN.out S2_.out.fr); have EV := J (VI.ret K2.out KV.out S2_.out.fr); have HKID := J (kid_nv (b := b) (okx := okx) (SN.out.nv.mono (fun q hq => hq.1)) (Nat.le_trans HBW.out K2.out.fr.size) K2.out.fresh (fun q hq => Kd.N_lt KN.out.nv.row q hq))
    obtain ⟨x0, x1, x2, x3⟩ := SN.out.cells; obtain ⟨y0, y1, y2, y3⟩ := EN.out.cells; clear S2_ SN K2 KN KV; go_wp2_with (go_at_call 45; refine (zb0 b okx _ k w wd1 _ l1 N1 _ _ _ _ _ _ EN.out.nv (Nat.le_trans HBW.out E2.out.fr.size) E2.out.fresh HKID.out qG).mono ?_; rintro e w11 ⟨wd6, u6, l6, rfl, h1, h2, h3⟩; obtain ⟨A6, c6, rfl, _, _⟩ := Kd.zaL h1.row; have F2 := J (E2.out.ext EN.out (E2.out.addps EN.out h2) (Fr.zaX h2)); have hv_ := EV.out.same (E2.out.var EV.out (Fr.zaX h2) (fun q hq => EN.out.nv.row.1 q hq)); have HEND := J (F2.out.done hv_ h1 (zaF EN.out.near E2.out.fr.size h3)); obtain ⟨z0, z1, z2, z3, hz_⟩ := hv_.at_; have HZ := J hz_; have f0 := zab hz_ 0; have f1 := zab hz_ 1; have f2 := zab hz_ 2; have f3 := zab hz_ 3; obtain ⟨⟨d0, d1, d2, d3⟩, dl⟩ := zaB hz_; clear h1 h2 h3 hv_ hz_ x0 x1 x2 x3 y0 y1 y2 y3)
    refine bodyPost_ret (zaM (r := .cell 4 24) rfl (.cell (W.heap.size + 1) 24 _ (0, 0) _ rfl (za7 HZ.out) Try.underlying24 rfl qb .nil)) rfl ?_
    refine ⟨aj, qI, hajl, ?_⟩
    obtain ⟨wd8, u8, l8, e1, e2, e3, e4, e5⟩ := HEND.out; exact ⟨wd8, u8, l8, e1, e2, e3.more qZ, e4, e5⟩
   have d2_ : (q1 == 25) = false := by simp [c2_]
   clear c1_ c2_; by_cases c3_ : q2 = 0
   ·have d3_ : (q2 == 0) = true := by simp [c3_]
    clear c3_; have E2 := J (K2.out.ret S2_.out.ps S2_.out.fr); have EN := J (NI.ret K2.out KN.out S2_.out.fr); have EV := J (VI.ret K2.out KV.out S2_.out.fr); have HKID := J (kid_nv (b := b) (okx := okx) (SN.out.nv.mono (fun q hq => hq.1)) (Nat.le_trans HBW.out K2.out.fr.size) K2.out.fresh (fun q hq => Kd.N_lt KN.out.nv.row q hq))
    obtain ⟨x0, x1, x2, x3⟩ := SN.out.cells; obtain ⟨y0, y1, y2, y3⟩ := EN.out.cells; clear S2_ SN K2 KN KV; go_wp2_with (go_at_call 45; refine (zb0 b okx _ k w wd1 _ l1 N1 _ _ _ _ _ _ EN.out.nv (Nat.le_trans HBW.out E2.out.fr.size) E2.out.fresh HKID.out qG).mono ?_; rintro e w11 ⟨wd6, u6, l6, rfl, h1, h2, h3⟩; obtain ⟨A6, c6, rfl, _, _⟩ := Kd.zaL h1.row; have F2 := J (E2.out.ext EN.out (E2.out.addps EN.out h2) (Fr.zaX h2)); have hv_ := EV.out.same (E2.out.var EV.out (Fr.zaX h2) (fun q hq => EN.out.nv.row.1 q hq)); have HEND := J (F2.out.done hv_ h1 (zaF EN.out.near E2.out.fr.size h3)); obtain ⟨z0, z1, z2, z3, hz_⟩ := hv_.at_; have HZ := J hz_; have f0 := zab hz_ 0; have f1 := zab hz_ 1; have f2 := zab hz_ 2; have f3 := zab hz_ 3; obtain ⟨⟨d0, d1, d2, d3⟩, dl⟩ := zaB hz_; clear h1 h2 h3 hv_ hz_ x0 x1 x2 x3 y0 y1 y2 y3)
    refine bodyPost_ret (zaM (r := .cell 4 24) rfl (.cell (W.heap.size + 1) 24 _ (0, 0) _ rfl (za7 HZ.out) Try.underlying24 rfl qb .nil)) rfl ?_
    refine ⟨aj, qI, hajl, ?_⟩
    obtain ⟨wd8, u8, l8, e1, e2, e3, e4, e5⟩ := HEND.out; exact ⟨wd8, u8, l8, e1, e2, e3.more qZ, e4, e5⟩
   have d3_ : (q2 == 0) = false := by simp [c3_]
   by_cases c4_ : q2 = 23
   ·have d4_ : (q2 == 23) = true := by simp [c4_]
    clear c4_ c3_; have E2 := J (K2.out.ret S2_.out.ps S2_.out.fr); have EN := J (NI.ret K2.out KN.out S2_.out.fr); have EV := J (VI.ret K2.out KV.out S2_.out.fr); have HKID := J (kid_nv (b := b) (okx := okx) (SN.out.nv.mono (fun q hq => hq.1)) (Nat.le_trans HBW.out K2.out.fr.size) K2.out.fresh (fun q hq => Kd.N_lt KN.out.nv.row q hq))
    obtain ⟨x0, x1, x2, x3⟩ := SN.out.cells; obtain ⟨y0, y1, y2, y3⟩ := EN.out.cells; clear S2_ SN K2 KN KV; go_wp2_with (go_at_call 45; refine (zb0 b okx _ k w wd1 _ l1 N1 _ _ _ _ _ _ EN.out.nv (Nat.le_trans HBW.out E2.out.fr.size) E2.out.fresh HKID.out qG).mono ?_; rintro e w11 ⟨wd6, u6, l6, rfl, h1, h2, h3⟩; obtain ⟨A6, c6, rfl, _, _⟩ := Kd.zaL h1.row; have F2 := J (E2.out.ext EN.out (E2.out.addps EN.out h2) (Fr.zaX h2)); have hv_ := EV.out.same (E2.out.var EV.out (Fr.zaX h2) (fun q hq => EN.out.nv.row.1 q hq)); have HEND := J (F2.out.done hv_ h1 (zaF EN.out.near E2.out.fr.size h3)); obtain ⟨z0, z1, z2, z3, hz_⟩ := hv_.at_; have HZ := J hz_; have f0 := zab hz_ 0; have f1 := zab hz_ 1; have f2 := zab hz_ 2; have f3 := zab hz_ 3; obtain ⟨⟨d0, d1, d2, d3⟩, dl⟩ := zaB hz_; clear h1 h2 h3 hv_ hz_ x0 x1 x2 x3 y0 y1 y2 y3)
    refine bodyPost_ret (zaM (r := .cell 4 24) rfl (.cell (W.heap.size + 1) 24 _ (0, 0) _ rfl (za7 HZ.out) Try.underlying24 rfl qb .nil)) rfl ?_
    refine ⟨aj, qI, hajl, ?_⟩
    obtain ⟨wd8, u8, l8, e1, e2, e3, e4, e5⟩ := HEND.out; exact ⟨wd8, u8, l8, e1, e2, e3.more qZ, e4, e5⟩
   have d4_ : (q2 == 23) = false := by simp [c4_]
   have HC0 := J (cu_lt (l := lt) (a := aj) (by rw [← HQ2.out]; exact c3_))
   clear c4_ c3_; obtain ⟨r2, hr2⟩ := stmt_tot q2; have HR2 := J hr2; clear hr2; by_cases c5_ : r2 = 0
   ·have d5_ : (r2 != 0) = false := by simp [c5_]
    clear c5_; go_wp2_with (go_at_call 43; refine (zaC.calls _ _ _ HR2.out).mono ?_; rintro e w10 ⟨rfl, hd2⟩; have hb2 := hd2.below; clear hd2; have T2 := J (S2_.out.below hb2); have TN := J (SN.out.below hb2); clear hb2 S2_ SN)
    go_roundg (lt.length - aj)
    case measure => have := HK.out; omega
    case rel => exact ⟨aj, wd4, _, l4, q9, hajl, ⟨rfl⟩, HC0, T2, TN⟩
   ·have d5_ : (r2 != 0) = true := by simp [c5_]
    clear c5_; go_upto_region 12 with (go_at_call 43; refine (zaC.calls _ _ _ HR2.out).mono ?_; rintro e w10 ⟨rfl, hd2⟩; have hb2 := hd2.below; clear hd2; have T2 := J (S2_.out.below hb2); have TN := J (SN.out.below hb2); clear hb2 S2_ SN)
    have E2 := J (K2.out.ret T2.out.ps T2.out.fr); have EN := J (NI.ret K2.out KN.out T2.out.fr); have EV := J (VI.ret K2.out KV.out T2.out.fr); have HKID := J (kid_nv (b := b) (okx := okx) (TN.out.nv.mono (fun q hq => hq.1)) (Nat.le_trans HBW.out K2.out.fr.size) K2.out.fresh (fun q hq => Kd.N_lt KN.out.nv.row q hq))
    obtain ⟨x0, x1, x2, x3⟩ := TN.out.cells; obtain ⟨y0, y1, y2, y3⟩ := EN.out.cells; clear T2 TN K2 KN KV; go_wp2_with (go_at_call 45; refine (zb0 b okx _ k w wd1 _ l1 N1 _ _ _ _ _ _ EN.out.nv (Nat.le_trans HBW.out E2.out.fr.size) E2.out.fresh HKID.out qG).mono ?_; rintro e w11 ⟨wd6, u6, l6, rfl, h1, h2, h3⟩; obtain ⟨A6, c6, rfl, _, _⟩ := Kd.zaL h1.row; have F2 := J (E2.out.ext EN.out (E2.out.addps EN.out h2) (Fr.zaX h2)); have hv_ := EV.out.same (E2.out.var EV.out (Fr.zaX h2) (fun q hq => EN.out.nv.row.1 q hq)); have HEND := J (F2.out.done hv_ h1 (zaF EN.out.near E2.out.fr.size h3)); obtain ⟨z0, z1, z2, z3, hz_⟩ := hv_.at_; have HZ := J hz_; have f0 := zab hz_ 0; have f1 := zab hz_ 1; have f2 := zab hz_ 2; have f3 := zab hz_ 3; obtain ⟨⟨d0, d1, d2, d3⟩, dl⟩ := zaB hz_; clear h1 h2 h3 hv_ hz_ x0 x1 x2 x3 y0 y1 y2 y3)
    refine bodyPost_ret (zaM (r := .cell 4 24) rfl (.cell (W.heap.size + 1) 24 _ (0, 0) _ rfl (za7 HZ.out) Try.underlying24 rfl qb .nil)) rfl ?_
    refine ⟨aj, qI, hajl, ?_⟩
    obtain ⟨wd8, u8, l8, e1, e2, e3, e4, e5⟩ := HEND.out; exact ⟨wd8, u8, l8, e1, e2, e3.more qZ, e4, e5⟩
theorem params_calls (g : Nat) (A : Option Addr) (c : Nat) (lt : List S40) (htk : TkOk lt) (a : Nat) (W : World) (hP : PS W g A c lt a) :
  Calls Try.prog 62 #[.pointer (some ⟨g, 0, none⟩)] W fun e W' => ∃ a', a ≤ a' ∧ a' ≤ lt.length ∧ Ret g A c lt W a' (40 * (a' - a) + 3) e W' := by
 have HTO := J htk; have HLEN := J hP.len; clear htk; have hu := Try.underlying24; go_enter Try.func62, Try.ntmps62
 go_upto_region 1 with (fail)
 obtain ⟨X, hX⟩ : ∃ X, X = W.alloc (nodeO 0 0 0 (.slice none 0 0)) := ⟨_, rfl⟩; obtain ⟨h2, hv⟩ := S2.start1 hP hX; change Code.wp Try.prog _ _ _ (W.alloc (nodeO 0 0 0 (.slice none 0 0)))
 rw [← hX]; generalize oky (fun q => W.heap.size ≤ q) W.heap.size = okx at h2 hv
 have I2 := J h2; have IV := J hv; clear h2 hv hX hP; go_upto_region 2 with (go_at_call 60; refine (zbA g A c lt HTO.out a W.heap.size okx X 55 0 0 (.slice none 0 0) [] 1 20 q9 I2.out.ps (NV.leaf q9 q9 q9 (Nat.le_refl _)) I2.out.fr.size (fun q hq => I2.out.hg q (I2.out.sub q hq)) I2.out.fresh qz).mono ?_; rintro e w3 ⟨a1, hl1a, hl1b, wd1, u1, l1, rfl, h1, h2, h3, h4⟩; obtain ⟨A1, c1, rfl, _, _⟩ := Kd.zaL h2.row; have hs_ := I2.out.ret h1 h3; have J2 := J (hs_.newv (o := nodeO 55 0 wd1 (.slice A1 l1.length c1))); have JN := J (NI.new_ (W := W) (r := none) hs_.fr.size h2 (zaF (v := .slice none 0 0) (.inl rfl) I2.out.fr.size h4)); have JV := J ((VI.ret I2.out IV.out h3).newv (o := nodeO 55 0 wd1 (.slice A1 l1.length c1))); have HW3_ := J (show W.heap.size < w3.heap.size from Nat.lt_of_lt_of_le IV.out.zav h3.size); clear h1 h2 h3 h4 hs_ I2 IV)
 have HW3 := J HW3_.out; clear HW3_; obtain ⟨X1, hX1⟩ : ∃ X1, X1 = w3.alloc (nodeO 55 0 wd1 (.slice A1 l1.length c1)) := ⟨_, rfl⟩; rw [← hX1] at J2 JN JV; change Code.wp Try.prog _ _ _ (w3.alloc (nodeO 55 0 wd1 (.slice A1 l1.length c1)))
 rw [← hX1]; clear hX1; have n_ := J (JN.out.more (N' := 40 * (a1 - a) + 2) q9)
 clear JN; have JN := n_; clear n_; have HKC := J (za5 g A c lt a1 X1 J2.out.ps); obtain ⟨q, hq⟩ : ∃ q, q = cu lt a1 := ⟨_, rfl⟩; rw [← hq] at HKC; have HQ := J hq; clear hq; by_cases h6 : q = 6
 case neg =>
  have d6 : (q == 6) = false := by simp [h6]
  clear h6; go_upto_region 7 with (go_at_call 21; refine HKC.out.mono ?_; rintro e w5 ⟨rfl, hb2⟩; have K2 := J (J2.out.below hb2); have KN := J (JN.out.below hb2); have KV := J (JV.out.below hb2); clear hb2 J2 JN JV HKC)
  obtain ⟨x0, x1, x2, x3⟩ := KN.out.cells; go_wp2_with (go_at_call 60; refine (zbA g A c lt HTO.out a1 W.heap.size (oky okx w3.heap.size) w5 55 0 wd1 _ l1 (40 * (a1 - a) + 2) 21 q9 K2.out.ps KN.out.nv K2.out.fr.size (fun q hq => K2.out.hg q (K2.out.sub q hq)) K2.out.fresh qz).mono ?_; rintro e w6 ⟨b3, b3a, b3l, wd3, u3, l3, rfl, h1, h2, h3, h4⟩; obtain ⟨A3, c3, rfl, _, _⟩ := Kd.zaL h2.row; have hv_ := KV.out.same (K2.out.var KV.out h3 (fun q hq => KN.out.nv.row.1 q hq)); have HEND := J ((K2.out.ext KN.out h1 h3).done hv_ h2 (zaF KN.out.near K2.out.fr.size h4)); obtain ⟨z0, z1, z2, z3, hz_⟩ := hv_.at_; have HZ := J hz_; have f0 := zab hz_ 0; have f1 := zab hz_ 1; have f2 := zab hz_ 2; have f3 := zab hz_ 3; obtain ⟨⟨d0, d1, d2, d3⟩, dl⟩ := zaB hz_; clear h1 h2 h3 h4 hv_ hz_ x0 x1 x2 x3)
  refine bodyPost_ret (zaM (r := .cell 2 24) rfl (.cell (W.heap.size) 24 _ (0, 0) _ rfl (za7 HZ.out) Try.underlying24 rfl qb .nil)) rfl ?_
  refine ⟨b3, q9, b3l, ?_⟩
  obtain ⟨wd8, u8, l8, e1, e2, e3, e4, e5⟩ := HEND.out; exact ⟨_, _, wd8, u8, l8, e1, e2, e3.more q9, e4⟩
 case pos =>
  have d6 : (q == 6) = true := by simp [h6]
  have HLT := J (cu_lt (l := lt) (a := a1) (by rw [← HQ.out, h6]; omega))
  clear h6; go_upto_region 3 with (go_at_call 21; refine HKC.out.mono ?_; rintro e w5 ⟨rfl, hb2⟩; have K2 := J (J2.out.below hb2); have KN := J (JN.out.below hb2); have KV := J (JV.out.below hb2); clear hb2 J2 JN JV HKC)
  obtain ⟨x0, x1, x2, x3⟩ := KN.out.cells; go_wp2_with (go_at_call 47; refine (zbq g A c lt HTO.out a1 W.heap.size (oky okx w3.heap.size) w5 55 0 wd1 _ l1 (40 * (a1 - a) + 2) K2.out.ps KN.out.nv K2.out.fr.size (fun q hq => K2.out.hg q (K2.out.sub q hq)) K2.out.fresh HLT.out Q0).mono ?_; rintro e w6 ⟨wd2, u2, l2, rfl, h1, h2, h3, h4⟩; obtain ⟨A2, c2, rfl, _, _⟩ := Kd.zaL h2.row; have hp_ := KN.out.vi.same (K2.out.var KN.out.vi h3 (fun q hq => KN.out.nv.row.1 q hq)); have L2 := J ((K2.out.ext KN.out h1 h3).put (k := 55) (w := 0) (wd := wd2) (u := .slice A2 l2.length c2) hp_); have LN := J (NI.put hp_ h2 (zaF KN.out.near K2.out.fr.size h4)); have hv_ := KV.out.same (K2.out.var KV.out h3 (fun q hq => KN.out.nv.row.1 q hq)); have LV := J (hv_.put (p := w3.heap.size) (k := 55) (w := 0) (wd := wd2) (u := .slice A2 l2.length c2) (fun e_ => qV)); clear hv_; obtain ⟨z0, z1, z2, z3, hz_⟩ := hp_.at_; have f0 := zab hz_ 0; have f1 := zab hz_ 1; have f2 := zab hz_ 2; have f3 := zab hz_ 3; obtain ⟨⟨d0, d1, d2, d3⟩, dl⟩ := zaB hz_; clear h1 h2 h3 h4 hp_ hz_ x0 x1 x2 x3 K2 KN KV)
  obtain ⟨X2, hX1⟩ : ∃ X1, X1 = putN w6 w3.heap.size 55 0 wd2 (.slice A2 l2.length c2) := ⟨_, rfl⟩; rw [← hX1] at L2 LN LV; simp only [putN] at hX1; rw [← hX1]; clear hX1 f0 f1 f2 f3 d0 d1 d2 d3 dl; obtain ⟨b2, hb2⟩ : ∃ b2, b2 = hd lt a1 + 1 := ⟨_, rfl⟩; have hge1 := hd_ge lt a1; have b2l : b2 ≤ lt.length := by have := HLT.out; omega
  have b2a : a1 < b2 := by omega
  have n0_ := J (LN.out.more (N' := 40 * (a1 - a) + 2 + (b2 - a1)) q9)
  rw [← hb2] at L2; clear LN hb2 hge1; have LN := n0_; clear n0_; have n_ := J (LN.out.more (N' := 40 * (b2 - a) + 2) q9)
  clear LN; have LN := n_; clear n_; go_loopg [] (lt.length - b2) (fun kq w' => ∃ (ai : Nat) (wdi : Int) (vi : Value) (li : List S24), a ≤ ai ∧ ai ≤ lt.length ∧ zaa (kq = lt.length - ai) ∧ zaa (S2 g A c lt (fun q => W.heap.size ≤ q) (oky okx w3.heap.size) W none w' ai) ∧ zaa (NI W.heap.size (oky okx w3.heap.size) W none w' w3.heap.size 55 0 wdi vi li (40 * (ai - a) + 2)) ∧ zaa (VI (oky okx w3.heap.size) W w' W.heap.size))
  case atStart => exact ⟨b2, wd2, _, l2, q9, b2l, ⟨rfl⟩, L2, LN, LV⟩
  case round =>
   obtain ⟨ai, wdi, vi, li, hai, hail, HK, M2, MN, MV⟩ := hrel; obtain ⟨Ai, ci, rfl, _, _⟩ := Kd.zaL MN.out.nv.row; have HKC := J (za5 g A c lt ai wr M2.out.ps); obtain ⟨q2, hq2⟩ : ∃ q2, q2 = cu lt ai := ⟨_, rfl⟩; rw [← hq2] at HKC; have HQ2 := J hq2; clear hq2; by_cases h24 : q2 = 24
   ·have d24 : (q2 == 24) = true := by simp [h24]
    have HLI := J (cu_lt (l := lt) (a := ai) (by rw [← HQ2.out, h24]; omega))
    clear h24; go_upto_region 5 with (go_at_call 21; refine HKC.out.mono ?_; rintro e w7 ⟨rfl, hb2⟩; have O2 := J (M2.out.below hb2); have ON := J (MN.out.below hb2); have OV := J (MV.out.below hb2); clear hb2 M2 MN MV HKC)
    obtain ⟨x0, x1, x2, x3⟩ := ON.out.cells; go_upto_region 6 with (go_at_call 47; refine (zbq g A c lt HTO.out ai W.heap.size (oky okx w3.heap.size) w7 55 0 wdi _ li (40 * (ai - a) + 2) O2.out.ps ON.out.nv O2.out.fr.size (fun q hq => O2.out.hg q (O2.out.sub q hq)) O2.out.fresh HLI.out Qk).mono ?_; rintro e w8 ⟨wd4, u4, l4, rfl, h1, h2, h3, h4⟩; obtain ⟨A4, c4, rfl, _, _⟩ := Kd.zaL h2.row; have hp_ := ON.out.vi.same (O2.out.var ON.out.vi h3 (fun q hq => ON.out.nv.row.1 q hq)); have Q2 := J ((O2.out.ext ON.out h1 h3).put (k := 55) (w := 0) (wd := wd4) (u := .slice A4 l4.length c4) hp_); have QN := J (NI.put hp_ h2 (zaF ON.out.near O2.out.fr.size h4)); have hv_ := OV.out.same (O2.out.var OV.out h3 (fun q hq => ON.out.nv.row.1 q hq)); have QV := J (hv_.put (p := w3.heap.size) (k := 55) (w := 0) (wd := wd4) (u := .slice A4 l4.length c4) (fun e_ => qV)); clear hv_; obtain ⟨z0, z1, z2, z3, hz_⟩ := hp_.at_; have f0 := zab hz_ 0; have f1 := zab hz_ 1; have f2 := zab hz_ 2; have f3 := zab hz_ 3; obtain ⟨⟨d0, d1, d2, d3⟩, dl⟩ := zaB hz_; clear h1 h2 h3 h4 hp_ hz_ x0 x1 x2 x3 O2 ON OV)
    obtain ⟨X4, hX1⟩ : ∃ X1, X1 = putN w8 w3.heap.size 55 0 wd4 (.slice A4 l4.length c4) := ⟨_, rfl⟩; rw [← hX1] at Q2 QN QV; simp only [putN] at hX1; rw [← hX1]; clear hX1 f0 f1 f2 f3 d0 d1 d2 d3 dl; obtain ⟨aj, haj⟩ : ∃ aj, aj = hd lt ai + 1 := ⟨_, rfl⟩; have hge2 := hd_ge lt ai; have hajl : aj ≤ lt.length := by have := HLI.out; omega
    have haji : ai < aj := by omega
    have n_ := J (QN.out.more (N' := 40 * (ai - a) + 2 + (aj - ai)) q9)
    rw [← haj] at Q2; clear QN haj hge2; have QN := n_; clear n_; obtain ⟨x0, x1, x2, x3⟩ := QN.out.cells; go_wp2_with (go_at_call 60; refine (zbA g A c lt HTO.out aj W.heap.size (oky okx w3.heap.size) X4 55 0 wd4 _ l4 (40 * (ai - a) + 2 + (aj - ai)) 6 q9 Q2.out.ps QN.out.nv Q2.out.fr.size (fun q hq => Q2.out.hg q (Q2.out.sub q hq)) Q2.out.fresh qz).mono ?_; rintro e w9 ⟨b5, b5a, b5l, wd5, u5, l5, rfl, h1, h2, h3, h4⟩; obtain ⟨A5, c5, rfl, _, _⟩ := Kd.zaL h2.row; have hp_ := QN.out.vi.same (Q2.out.var QN.out.vi h3 (fun q hq => QN.out.nv.row.1 q hq)); have R2 := J ((Q2.out.ext QN.out h1 h3).put (k := 55) (w := 0) (wd := wd5) (u := .slice A5 l5.length c5) hp_); have RN := J (NI.put hp_ h2 (zaF QN.out.near Q2.out.fr.size h4)); have hv_ := QV.out.same (Q2.out.var QV.out h3 (fun q hq => QN.out.nv.row.1 q hq)); have RV := J (hv_.put (p := w3.heap.size) (k := 55) (w := 0) (wd := wd5) (u := .slice A5 l5.length c5) (fun e_ => qV)); clear hv_; obtain ⟨z0, z1, z2, z3, hz_⟩ := hp_.at_; have f0 := zab hz_ 0; have f1 := zab hz_ 1; have f2 := zab hz_ 2; have f3 := zab hz_ 3; obtain ⟨⟨d0, d1, d2, d3⟩, dl⟩ := zaB hz_; clear h1 h2 h3 h4 hp_ hz_ x0 x1 x2 x3 Q2 QN QV)
    obtain ⟨X5, hX1⟩ : ∃ X1, X1 = putN w9 w3.heap.size 55 0 wd5 (.slice A5 l5.length c5) := ⟨_, rfl⟩; rw [← hX1] at R2 RN RV; simp only [putN] at hX1; rw [← hX1]; clear hX1 f0 f1 f2 f3 d0 d1 d2 d3 dl; go_roundg (lt.length - b5)
    case measure => have := HK.out; omega
    case rel => exact ⟨b5, wd5, _, l5, q9, b5l, ⟨rfl⟩, R2, ⟨RN.out.more q9⟩, RV⟩
   ·have d24 : (q2 == 24) = false := by simp [h24]
    clear h24; go_upto_region 7 with (go_at_call 21; refine HKC.out.mono ?_; rintro e w7 ⟨rfl, hb2⟩; have O2 := J (M2.out.below hb2); have ON := J (MN.out.below hb2); have OV := J (MV.out.below hb2); clear hb2 M2 MN MV HKC)
    obtain ⟨x0, x1, x2, x3⟩ := ON.out.cells; go_wp2_with (go_at_call 60; refine (zbA g A c lt HTO.out ai W.heap.size (oky okx w3.heap.size) w7 55 0 wdi _ li (40 * (ai - a) + 2) 21 q9 O2.out.ps ON.out.nv O2.out.fr.size (fun q hq => O2.out.hg q (O2.out.sub q hq)) O2.out.fresh qz).mono ?_; rintro e w8 ⟨b3, b3a, b3l, wd3, u3, l3, rfl, h1, h2, h3, h4⟩; obtain ⟨A3, c3, rfl, _, _⟩ := Kd.zaL h2.row; have hv_ := OV.out.same (O2.out.var OV.out h3 (fun q hq => ON.out.nv.row.1 q hq)); have HEND := J ((O2.out.ext ON.out h1 h3).done hv_ h2 (zaF ON.out.near O2.out.fr.size h4)); obtain ⟨z0, z1, z2, z3, hz_⟩ := hv_.at_; have HZ := J hz_; have f0 := zab hz_ 0; have f1 := zab hz_ 1; have f2 := zab hz_ 2; have f3 := zab hz_ 3; obtain ⟨⟨d0, d1, d2, d3⟩, dl⟩ := zaB hz_; clear h1 h2 h3 h4 hv_ hz_ x0 x1 x2 x3)
    refine bodyPost_ret (zaM (r := .cell 2 24) rfl (.cell (W.heap.size) 24 _ (0, 0) _ rfl (za7 HZ.out) Try.underlying24 rfl qb .nil)) rfl ?_
    refine ⟨b3, q9, b3l, ?_⟩
    obtain ⟨wd8, u8, l8, e1, e2, e3, e4, e5⟩ := HEND.out; exact ⟨_, _, wd8, u8, l8, e1, e2, e3.more q9, e4⟩
theorem nv_new {b : Nat} {okx : Nat → Prop} {X w2 : World} {k w wd : Int} {v : Value} {l : List S24} {N : Nat} (hV : NV X.heap.size (fun q => X.heap.size ≤ q) w2 k w wd v l N) (hb : b ≤ X.heap.size) (hf : ∀ q, X.heap.size ≤ q → okx q) : NV b okx w2 k w wd v l N :=
 (kid_nv (r := none) hV hb hf (fun q hq => by cases hq)).mono (fun q hq => hq.1)
theorem near_new {b' : Nat} {W X w2 : World} {k w wd : Int} {v : Value} {l : List S24} {N : Nat} (hV : NV b' (fun q => X.heap.size ≤ q) w2 k w wd v l N) (hs : W.heap.size ≤ X.heap.size) : Near W none v := by
 cases h : v.ownBlock with
 | none => exact .inl h
 | some q => exact .inr ⟨q, h, Nat.le_trans hs (hV.row.1 q h)⟩
theorem S2.okx {g : Nat} {A : Option Addr} {c : Nat} {lt : List S40} {ok okx okx' : Nat → Prop} {W : World} {r : Option Nat} {X : World} {a : Nat} (h : S2 g A c lt ok okx W r X a) (hs : ∀ q, okx' q → ok q) (hf : ∀ q, X.heap.size ≤ q → okx' q) : S2 g A c lt ok okx' W r X a := ⟨h.ps, h.fr, h.gW, h.hg, hs, hf⟩
theorem NI.okx {b : Nat} {okx okx' : Nat → Prop} {W : World} {r : Option Nat} {X : World} {p : Nat} {k w wd : Int} {v : Value} {l : List S24} {N : Nat} (h : NI b okx W r X p k w wd v l N) (hs : ∀ q, okx q → okx' q) (ho : ¬ okx' p) : NI b okx' W r X p k w wd v l N := ⟨h.box, h.nv.mono hs, h.near, ho, h.new⟩
theorem VI.okx {okx okx' : Nat → Prop} {W X : World} {p : Nat} (h : VI okx W X p) (ho : ¬ okx' p) : VI okx' W X p := ⟨h.at_, ho, h.new⟩
theorem unary_calls (g : Nat) (A : Option Addr) (c : Nat) (lt : List S40) (htk : TkOk lt) (a : Nat) (hun : ∀ a1, a < a1 → CUnary g A c lt a1) (hpr : CPrimary g A c lt a) (har : ∀ a1, a < a1 → CArgs g A c lt a1) (W : World) (hP : PS W g A c lt a) (hlt : hd lt a < lt.length) :
  Calls Try.prog 77 #[.pointer (some ⟨g, 0, none⟩)] W fun e W' => ∃ a', a < a' ∧ a' ≤ lt.length ∧ Ret g A c lt W a' (40 * (a' - a) - 20) e W' := by
 have HTO := J htk; have HUN := J hun; have HPR := J hpr; have HAR := J har; have HLT := J hlt; have HLEN := J hP.len; clear htk hun hpr har hlt; have hu := Try.underlying24; go_enter Try.func77, Try.ntmps77
 go_upto_region 1 with (fail)
 obtain ⟨X, hX⟩ : ∃ X, X = W.alloc (nodeO 0 0 0 (.slice none 0 0)) := ⟨_, rfl⟩; obtain ⟨h2, hv⟩ := S2.start1 hP hX; change Code.wp Try.prog _ _ _ (W.alloc (nodeO 0 0 0 (.slice none 0 0)))
 rw [← hX]; generalize oky (fun q => W.heap.size ≤ q) W.heap.size = okx at h2 hv
 have H2 := J h2; have HV := J hv; clear h2 hv hX hP; obtain ⟨q, hq⟩ : ∃ q, q = cu lt a := ⟨_, rfl⟩; have HKF := J (fun (X : World) (h : PS X g A c lt a) => (show Calls Try.prog 21 #[.pointer (some ⟨g, 0, none⟩)] X fun e w' => e = .returned (.int .u8 q) ∧ Below X.heap.size X w' from by rw [hq]; exact za5 g A c lt a X h))
 have HQ := J hq; clear hq; by_cases h34 : q = 34
 ·have d34 : (q == 34) = true := by simp [h34]
  clear h34; go_upto_region 2 with (go_at_call 21; refine (HKF.out _ H2.out.ps).mono ?_; rintro e wk ⟨rfl, hb2⟩; have I2 := J (H2.out.below hb2); have IV := J (HV.out.below hb2); clear hb2 H2 HV)
  go_upto_region 3 with (go_at_call 47; refine (zbq g A c lt HTO.out a W.heap.size okx wk 62 0 0 (.slice none 0 0) [] 1 I2.out.ps (NV.leaf q9 q9 q9 (Nat.le_refl _)) I2.out.fr.size (fun q hq => I2.out.hg q (I2.out.sub q hq)) I2.out.fresh HLT.out Q0).mono ?_; rintro e w3 ⟨wd1, u1, l1, rfl, h1, h2, h3, h4⟩; obtain ⟨A1, c1, rfl, _, _⟩ := Kd.zaL h2.row; have hs_ := I2.out.ret h1 h3; have J2 := J (hs_.newv (o := nodeO 62 0 wd1 (.slice A1 l1.length c1))); have JN := J (NI.new_ (W := W) (r := none) hs_.fr.size h2 (zaF (v := .slice none 0 0) (.inl rfl) I2.out.fr.size h4)); have JV := J ((VI.ret I2.out IV.out h3).newv (o := nodeO 62 0 wd1 (.slice A1 l1.length c1))); have HW3_ := J (show W.heap.size < w3.heap.size from Nat.lt_of_lt_of_le IV.out.zav h3.size); clear h1 h2 h3 h4 hs_ I2 IV)
  have HW3 := J HW3_.out; clear HW3_; obtain ⟨X1, hX1⟩ : ∃ X1, X1 = w3.alloc (nodeO 62 0 wd1 (.slice A1 l1.length c1)) := ⟨_, rfl⟩; rw [← hX1] at J2 JN JV; change Code.wp Try.prog _ _ _ (w3.alloc (nodeO 62 0 wd1 (.slice A1 l1.length c1)))
  rw [← hX1]; clear hX1; obtain ⟨a1, ha1⟩ : ∃ a1, a1 = hd lt a + 1 := ⟨_, rfl⟩; have hge := hd_ge lt a; have hl1 : a < a1 ∧ a1 ≤ lt.length := ⟨q9, by have := HLT.out; omega⟩
  obtain ⟨hl1a, hl1b⟩ := hl1; have n_ := J (JN.out.more (N' := 40 * (a1 - a) - 38) q9)
  rw [← ha1] at J2; clear JN ha1 hge; have JN := n_; clear n_; have HKC := J (za5 g A c lt a1 X1 J2.out.ps); obtain ⟨q1, hq1⟩ : ∃ q1, q1 = cu lt a1 := ⟨_, rfl⟩; rw [← hq1] at HKC; have HQ1 := J hq1; clear hq1; obtain ⟨rr, hrr⟩ := expr_tot q1; have HRR := J hrr; clear hrr; cases rr with
  | false =>
   go_upto_region 4 with (first | (go_at_call 21; refine HKC.out.mono ?_; rintro e w4 ⟨rfl, hb2⟩; have I1 := J (J2.out.below hb2); have IN1 := J (JN.out.below hb2); have IV1 := J (JV.out.below hb2); clear hb2 J2 JN JV HKC) | (go_at_call 59; refine (zaE.calls _ _ _ HRR.out).mono ?_; rintro e w5 ⟨rfl, hd2⟩; have hb2 := hd2.below; clear hd2; have K2 := J (I1.out.below hb2); have KN := J (IN1.out.below hb2); have KV := J (IV1.out.below hb2); clear hb2 I1 IN1 IV1))
   obtain ⟨x0, x1, x2, x3⟩ := KN.out.cells; go_wp2_with (go_at_call 72; refine (zbW g A c lt a1 W.heap.size (oky okx w3.heap.size) w5 62 0 wd1 _ l1 (40 * (a1 - a) - 38) 60 q9 K2.out.ps KN.out.nv K2.out.fr.size (fun q hq => K2.out.hg q (K2.out.sub q hq)) K2.out.fresh qz).mono ?_; rintro e w6 ⟨wd3, u3, l3, rfl, h1, h2, h3, h4⟩; obtain ⟨A3, c3, rfl, _, _⟩ := Kd.zaL h2.row; have hv_ := KV.out.same (K2.out.var KV.out h3 (fun q hq => KN.out.nv.row.1 q hq)); have HEND := J ((K2.out.ext KN.out h1 h3).done hv_ h2 (zaF KN.out.near K2.out.fr.size h4)); obtain ⟨z0, z1, z2, z3, hz_⟩ := hv_.at_; have HZ := J hz_; have f0 := zab hz_ 0; have f1 := zab hz_ 1; have f2 := zab hz_ 2; have f3 := zab hz_ 3; obtain ⟨⟨d0, d1, d2, d3⟩, dl⟩ := zaB hz_; clear h1 h2 h3 h4 hv_ hz_ x0 x1 x2 x3)
   refine bodyPost_ret (zaM (r := .cell 2 24) rfl (.cell (W.heap.size) 24 _ (0, 0) _ rfl (za7 HZ.out) Try.underlying24 rfl qb .nil)) rfl ?_
   refine ⟨a1, q9, hl1b, ?_⟩
   obtain ⟨wd8, u8, l8, e1, e2, e3, e4, e5⟩ := HEND.out; exact ⟨_, _, wd8, u8, l8, e1, e2, e3.more q9, e4⟩
  | true =>
   have HLT1 := J (cu_lt (l := lt) (a := a1) (by rw [← HQ1.out]; exact expr_ne HRR.out))
   have HHL1 := J (hd_ge lt a1); go_upto_region 5 with (first | (go_at_call 21; refine HKC.out.mono ?_; rintro e w4 ⟨rfl, hb2⟩; have I1 := J (J2.out.below hb2); have IN1 := J (JN.out.below hb2); have IV1 := J (JV.out.below hb2); clear hb2 J2 JN JV HKC) | (go_at_call 59; refine (zaE.calls _ _ _ HRR.out).mono ?_; rintro e w5 ⟨rfl, hd2⟩; have hb2 := hd2.below; clear hd2; have K2 := J (I1.out.below hb2); have KN := J (IN1.out.below hb2); have KV := J (IV1.out.below hb2); clear hb2 I1 IN1 IV1))
   obtain ⟨x0, x1, x2, x3⟩ := KN.out.cells; go_upto_region 6 with (go_at_call 23; refine (zbU g A c lt HTO.out a1 W.heap.size (oky okx w3.heap.size) w5 62 0 wd1 _ l1 (40 * (a1 - a) - 38) K2.out.ps KN.out.nv K2.out.fr.size (fun q hq => K2.out.hg q (K2.out.sub q hq)) K2.out.fresh (by have := HLEN.out; have := HLT1.out; omega)).mono ?_; rintro e w6 ⟨wd2, u2, l2, rfl, h1, h2, h3, h4⟩; obtain ⟨A2, c2, rfl, _, _⟩ := Kd.zaL h2.row; have hp_ := KN.out.vi.same (K2.out.var KN.out.vi h3 (fun q hq => KN.out.nv.row.1 q hq)); have L2 := J ((K2.out.ext KN.out h1 h3).put (k := 62) (w := 0) (wd := wd2) (u := .slice A2 l2.length c2) hp_); have LN := J (NI.put hp_ h2 (zaF KN.out.near K2.out.fr.size h4)); have hv_ := KV.out.same (K2.out.var KV.out h3 (fun q hq => KN.out.nv.row.1 q hq)); have LV := J (hv_.put (p := w3.heap.size) (k := 62) (w := 0) (wd := wd2) (u := .slice A2 l2.length c2) (fun e_ => qV)); clear hv_; obtain ⟨z0, z1, z2, z3, hz_⟩ := hp_.at_; have f0 := zab hz_ 0; have f1 := zab hz_ 1; have f2 := zab hz_ 2; have f3 := zab hz_ 3; obtain ⟨⟨d0, d1, d2, d3⟩, dl⟩ := zaB hz_; clear h1 h2 h3 h4 hp_ hz_ x0 x1 x2 x3 K2 KN KV)
   obtain ⟨X2, hX1⟩ : ∃ X1, X1 = putN w6 w3.heap.size 62 0 wd2 (.slice A2 l2.length c2) := ⟨_, rfl⟩; rw [← hX1] at L2 LN LV; simp only [putN] at hX1; rw [← hX1]; clear hX1 f0 f1 f2 f3 d0 d1 d2 d3 dl; obtain ⟨N1, hN1⟩ : ∃ N1, N1 = 40 * (a1 - a) - 38 + (hd lt a1 - a1) := ⟨_, rfl⟩; rw [← hN1] at LN; have HN1 := J hN1; clear hN1; have HSZ := J (show N1 + 40 * (lt.length - hd lt a1) ≤ 899990 by have := HN1.out; have := HLT1.out; have := HHL1.out; have := HLEN.out; omega)
   have HBW := J (Nat.le_refl W.heap.size); have D2 := J (L2.out.below (Y := X2.drew) (Below.refl _ _).drew); have DN := J (LN.out.below (Y := X2.drew) (Below.refl _ _).drew); have DV := J (LV.out.below (Y := X2.drew) (Below.refl _ _).drew); have HS0 := J DN.out.cells; clear L2 LN LV; refine wp_region_noPanic (zba [0, 1, 2, 3] (fun W' => W'.cell? ⟨w3.heap.size, 0, none⟩ = some (.int .u8 62) ∧ W'.cell? ⟨w3.heap.size, 1, none⟩ = some (.int .u8 0) ∧ W'.cell? ⟨w3.heap.size, 2, none⟩ = some (.int .i64 wd2) ∧ W'.cell? ⟨w3.heap.size, 3, none⟩ = some (.slice A2 l2.length c2)) qb ?_)
   refine zah 0 rfl HS0.out (fun _ h => qj) ?_
   simp only [Act.put, zai]; refine zah 1 rfl HS0.out (fun _ h => qj) ?_
   simp only [Act.put, zai]; refine zaI (i := 2) rfl qb (fun K hK => ?_)
   go_simp
   refine (HUN.out (hd lt a1) (by have := HHL1.out; omega) X2.drew D2.out.ps (by rw [hd_hd]; exact HLT1.out)).mono ?_
   rintro e w5 ⟨a9, hlo, hhi, k9, w9, wd9, u9, l9, rfl, p1, p2, p3⟩
   obtain ⟨kA, kc, rfl, _, _⟩ := Kd.zaL p2.row; have E2 := J (D2.out.ret p1 p3); have EN := J (NI.ret D2.out DN.out p3); have EV := J (VI.ret D2.out DV.out p3); have HKID := J (kid_nv (b := W.heap.size) (okx := (oky okx w3.heap.size)) p2 (Nat.le_trans HBW.out D2.out.fr.size) D2.out.fresh (fun q hq => Kd.N_lt DN.out.nv.row q hq))
   have HS1 := J EN.out.cells; clear p1 p2 p3; refine hK.out _ _ (fun _ => HS1.out) (fun _ => ?_)
   clear hK K; try simp only [Act.put, zai]
   refine zaI (i := 3) rfl qb (fun K hK => ?_)
   go_simp
   refine (zb0 W.heap.size (oky okx w3.heap.size) w5 62 0 wd2 _ l2 N1 _ _ _ _ _ _ EN.out.nv (Nat.le_trans HBW.out E2.out.fr.size) E2.out.fresh HKID.out qG).mono ?_
   rintro e w6 ⟨wd6, u6, l6, rfl, h1, h2, h3⟩
   obtain ⟨A6, c6, rfl, _, _⟩ := Kd.zaL h1.row; have F2 := J (E2.out.ext EN.out (E2.out.addps EN.out h2) (Fr.zaX h2)); have hv_ := EV.out.same (E2.out.var EV.out (Fr.zaX h2) (fun q hq => EN.out.nv.row.1 q hq))
   have FN := J (EN.out.vi.same (E2.out.var EN.out.vi (Fr.zaX h2) (fun q hq => EN.out.nv.row.1 q hq)))
   have HS2 := J ((zaB ((E2.out.var EN.out.vi (Fr.zaX h2) (fun q hq => EN.out.nv.row.1 q hq)).trans EN.out.box)).1)
   have HEND := J (F2.out.done hv_ h1 (zaF EN.out.near E2.out.fr.size h3)); obtain ⟨z0, z1, z2, z3, hz_⟩ := hv_.at_; have HZ := J hz_; have f0 := zab hz_ 0; have f1 := zab hz_ 1; have f2 := zab hz_ 2; have f3 := zab hz_ 3; obtain ⟨⟨d0, d1, d2, d3⟩, dl⟩ := zaB hz_
   clear h1 h2 h3 hv_ hz_; refine hK.out _ _ (fun _ => HS2.out) (fun _ => ?_)
   clear hK K; try simp only [Act.put, zai]
   refine zaI (i := 4) rfl qb (fun K hK => ?_)
   go_simp
   refine hK.out _ _ (fun h => Bool.noConfusion (show false = true from h)) (fun _ => ?_)
   clear hK K; try simp only [Act.put, zai]
   refine za3 qb (NoPanic.normal ?_) _
   clear d0 d1 d2 d3 dl f0 f1 f2 f3; go_wp2
   refine bodyPost_ret (zaM (r := .cell 2 24) rfl (.cell (W.heap.size) 24 _ (0, 0) _ rfl (za7 HZ.out) Try.underlying24 rfl qb .nil)) rfl ?_
   refine ⟨a9, by have := HHL1.out; have := HN1.out; omega, hhi, ?_⟩
   obtain ⟨wd8, u8, l8, e1, e2, e3, e4, e5⟩ := HEND.out; exact ⟨_, _, wd8, u8, l8, e1, e2, e3.more (by have := HHL1.out; have := HN1.out; omega), e4⟩
 have d34 : (q == 34) = false := by simp [h34]
 by_cases h38 : q = 38
 ·have d38 : (q == 38) = true := by simp [h38]
  clear h34 h38; go_upto_region 2 with (first | (go_at_call 21; refine (HKF.out _ H2.out.ps).mono ?_; rintro e wj ⟨rfl, hb2⟩; have H3 := J (H2.out.below hb2); have HV3 := J (HV.out.below hb2); clear hb2 H2 HV) | (go_at_call 21; refine (HKF.out _ H3.out.ps).mono ?_; rintro e wk ⟨rfl, hb2⟩; have I2 := J (H3.out.below hb2); have IV := J (HV3.out.below hb2); clear hb2 H3 HV3))
  go_upto_region 3 with (go_at_call 47; refine (zbq g A c lt HTO.out a W.heap.size okx wk 62 0 0 (.slice none 0 0) [] 1 I2.out.ps (NV.leaf q9 q9 q9 (Nat.le_refl _)) I2.out.fr.size (fun q hq => I2.out.hg q (I2.out.sub q hq)) I2.out.fresh HLT.out Q0).mono ?_; rintro e w3 ⟨wd1, u1, l1, rfl, h1, h2, h3, h4⟩; obtain ⟨A1, c1, rfl, _, _⟩ := Kd.zaL h2.row; have hs_ := I2.out.ret h1 h3; have J2 := J (hs_.newv (o := nodeO 62 0 wd1 (.slice A1 l1.length c1))); have JN := J (NI.new_ (W := W) (r := none) hs_.fr.size h2 (zaF (v := .slice none 0 0) (.inl rfl) I2.out.fr.size h4)); have JV := J ((VI.ret I2.out IV.out h3).newv (o := nodeO 62 0 wd1 (.slice A1 l1.length c1))); have HW3_ := J (show W.heap.size < w3.heap.size from Nat.lt_of_lt_of_le IV.out.zav h3.size); clear h1 h2 h3 h4 hs_ I2 IV)
  have HW3 := J HW3_.out; clear HW3_; obtain ⟨X1, hX1⟩ : ∃ X1, X1 = w3.alloc (nodeO 62 0 wd1 (.slice A1 l1.length c1)) := ⟨_, rfl⟩; rw [← hX1] at J2 JN JV; change Code.wp Try.prog _ _ _ (w3.alloc (nodeO 62 0 wd1 (.slice A1 l1.length c1)))
  rw [← hX1]; clear hX1; obtain ⟨a1, ha1⟩ : ∃ a1, a1 = hd lt a + 1 := ⟨_, rfl⟩; have hge := hd_ge lt a; have hl1 : a < a1 ∧ a1 ≤ lt.length := ⟨q9, by have := HLT.out; omega⟩
  obtain ⟨hl1a, hl1b⟩ := hl1; have n_ := J (JN.out.more (N' := 40 * (a1 - a) - 38) q9)
  rw [← ha1] at J2; clear JN ha1 hge; have JN := n_; clear n_; have HKC := J (za5 g A c lt a1 X1 J2.out.ps); obtain ⟨q1, hq1⟩ : ∃ q1, q1 = cu lt a1 := ⟨_, rfl⟩; rw [← hq1] at HKC; have HQ1 := J hq1; clear hq1; obtain ⟨rr, hrr⟩ := expr_tot q1; have HRR := J hrr; clear hrr; cases rr with
  | false =>
   go_upto_region 4 with (first | (go_at_call 21; refine HKC.out.mono ?_; rintro e w4 ⟨rfl, hb2⟩; have I1 := J (J2.out.below hb2); have IN1 := J (JN.out.below hb2); have IV1 := J (JV.out.below hb2); clear hb2 J2 JN JV HKC) | (go_at_call 59; refine (zaE.calls _ _ _ HRR.out).mono ?_; rintro e w5 ⟨rfl, hd2⟩; have hb2 := hd2.below; clear hd2; have K2 := J (I1.out.below hb2); have KN := J (IN1.out.below hb2); have KV := J (IV1.out.below hb2); clear hb2 I1 IN1 IV1))
   obtain ⟨x0, x1, x2, x3⟩ := KN.out.cells; go_wp2_with (go_at_call 72; refine (zbW g A c lt a1 W.heap.size (oky okx w3.heap.size) w5 62 0 wd1 _ l1 (40 * (a1 - a) - 38) 60 q9 K2.out.ps KN.out.nv K2.out.fr.size (fun q hq => K2.out.hg q (K2.out.sub q hq)) K2.out.fresh qz).mono ?_; rintro e w6 ⟨wd3, u3, l3, rfl, h1, h2, h3, h4⟩; obtain ⟨A3, c3, rfl, _, _⟩ := Kd.zaL h2.row; have hv_ := KV.out.same (K2.out.var KV.out h3 (fun q hq => KN.out.nv.row.1 q hq)); have HEND := J ((K2.out.ext KN.out h1 h3).done hv_ h2 (zaF KN.out.near K2.out.fr.size h4)); obtain ⟨z0, z1, z2, z3, hz_⟩ := hv_.at_; have HZ := J hz_; have f0 := zab hz_ 0; have f1 := zab hz_ 1; have f2 := zab hz_ 2; have f3 := zab hz_ 3; obtain ⟨⟨d0, d1, d2, d3⟩, dl⟩ := zaB hz_; clear h1 h2 h3 h4 hv_ hz_ x0 x1 x2 x3)
   refine bodyPost_ret (zaM (r := .cell 2 24) rfl (.cell (W.heap.size) 24 _ (0, 0) _ rfl (za7 HZ.out) Try.underlying24 rfl qb .nil)) rfl ?_
   refine ⟨a1, q9, hl1b, ?_⟩
   obtain ⟨wd8, u8, l8, e1, e2, e3, e4, e5⟩ := HEND.out; exact ⟨_, _, wd8, u8, l8, e1, e2, e3.more q9, e4⟩
  | true =>
   have HLT1 := J (cu_lt (l := lt) (a := a1) (by rw [← HQ1.out]; exact expr_ne HRR.out))
   have HHL1 := J (hd_ge lt a1); go_upto_region 5 with (first | (go_at_call 21; refine HKC.out.mono ?_; rintro e w4 ⟨rfl, hb2⟩; have I1 := J (J2.out.below hb2); have IN1 := J (JN.out.below hb2); have IV1 := J (JV.out.below hb2); clear hb2 J2 JN JV HKC) | (go_at_call 59; refine (zaE.calls _ _ _ HRR.out).mono ?_; rintro e w5 ⟨rfl, hd2⟩; have hb2 := hd2.below; clear hd2; have K2 := J (I1.out.below hb2); have KN := J (IN1.out.below hb2); have KV := J (IV1.out.below hb2); clear hb2 I1 IN1 IV1))
   obtain ⟨x0, x1, x2, x3⟩ := KN.out.cells; go_upto_region 6 with (go_at_call 23; refine (zbU g A c lt HTO.out a1 W.heap.size (oky okx w3.heap.size) w5 62 0 wd1 _ l1 (40 * (a1 - a) - 38) K2.out.ps KN.out.nv K2.out.fr.size (fun q hq => K2.out.hg q (K2.out.sub q hq)) K2.out.fresh (by have := HLEN.out; have := HLT1.out; omega)).mono ?_; rintro e w6 ⟨wd2, u2, l2, rfl, h1, h2, h3, h4⟩; obtain ⟨A2, c2, rfl, _, _⟩ := Kd.zaL h2.row; have hp_ := KN.out.vi.same (K2.out.var KN.out.vi h3 (fun q hq => KN.out.nv.row.1 q hq)); have L2 := J ((K2.out.ext KN.out h1 h3).put (k := 62) (w := 0) (wd := wd2) (u := .slice A2 l2.length c2) hp_); have LN := J (NI.put hp_ h2 (zaF KN.out.near K2.out.fr.size h4)); have hv_ := KV.out.same (K2.out.var KV.out h3 (fun q hq => KN.out.nv.row.1 q hq)); have LV := J (hv_.put (p := w3.heap.size) (k := 62) (w := 0) (wd := wd2) (u := .slice A2 l2.length c2) (fun e_ => qV)); clear hv_; obtain ⟨z0, z1, z2, z3, hz_⟩ := hp_.at_; have f0 := zab hz_ 0; have f1 := zab hz_ 1; have f2 := zab hz_ 2; have f3 := zab hz_ 3; obtain ⟨⟨d0, d1, d2, d3⟩, dl⟩ := zaB hz_; clear h1 h2 h3 h4 hp_ hz_ x0 x1 x2 x3 K2 KN KV)
   obtain ⟨X2, hX1⟩ : ∃ X1, X1 = putN w6 w3.heap.size 62 0 wd2 (.slice A2 l2.length c2) := ⟨_, rfl⟩; rw [← hX1] at L2 LN LV; simp only [putN] at hX1; rw [← hX1]; clear hX1 f0 f1 f2 f3 d0 d1 d2 d3 dl; obtain ⟨N1, hN1⟩ : ∃ N1, N1 = 40 * (a1 - a) - 38 + (hd lt a1 - a1) := ⟨_, rfl⟩; rw [← hN1] at LN; have HN1 := J hN1; clear hN1; have HSZ := J (show N1 + 40 * (lt.length - hd lt a1) ≤ 899990 by have := HN1.out; have := HLT1.out; have := HHL1.out; have := HLEN.out; omega)
   have HBW := J (Nat.le_refl W.heap.size); have D2 := J (L2.out.below (Y := X2.drew) (Below.refl _ _).drew); have DN := J (LN.out.below (Y := X2.drew) (Below.refl _ _).drew); have DV := J (LV.out.below (Y := X2.drew) (Below.refl _ _).drew); have HS0 := J DN.out.cells; clear L2 LN LV; refine wp_region_noPanic (zba [0, 1, 2, 3] (fun W' => W'.cell? ⟨w3.heap.size, 0, none⟩ = some (.int .u8 62) ∧ W'.cell? ⟨w3.heap.size, 1, none⟩ = some (.int .u8 0) ∧ W'.cell? ⟨w3.heap.size, 2, none⟩ = some (.int .i64 wd2) ∧ W'.cell? ⟨w3.heap.size, 3, none⟩ = some (.slice A2 l2.length c2)) qb ?_)
   refine zah 0 rfl HS0.out (fun _ h => qj) ?_
   simp only [Act.put, zai]; refine zah 1 rfl HS0.out (fun _ h => qj) ?_
   simp only [Act.put, zai]; refine zaI (i := 2) rfl qb (fun K hK => ?_)
   go_simp
   refine (HUN.out (hd lt a1) (by have := HHL1.out; omega) X2.drew D2.out.ps (by rw [hd_hd]; exact HLT1.out)).mono ?_
   rintro e w5 ⟨a9, hlo, hhi, k9, w9, wd9, u9, l9, rfl, p1, p2, p3⟩
   obtain ⟨kA, kc, rfl, _, _⟩ := Kd.zaL p2.row; have E2 := J (D2.out.ret p1 p3); have EN := J (NI.ret D2.out DN.out p3); have EV := J (VI.ret D2.out DV.out p3); have HKID := J (kid_nv (b := W.heap.size) (okx := (oky okx w3.heap.size)) p2 (Nat.le_trans HBW.out D2.out.fr.size) D2.out.fresh (fun q hq => Kd.N_lt DN.out.nv.row q hq))
   have HS1 := J EN.out.cells; clear p1 p2 p3; refine hK.out _ _ (fun _ => HS1.out) (fun _ => ?_)
   clear hK K; try simp only [Act.put, zai]
   refine zaI (i := 3) rfl qb (fun K hK => ?_)
   go_simp
   refine (zb0 W.heap.size (oky okx w3.heap.size) w5 62 0 wd2 _ l2 N1 _ _ _ _ _ _ EN.out.nv (Nat.le_trans HBW.out E2.out.fr.size) E2.out.fresh HKID.out qG).mono ?_
   rintro e w6 ⟨wd6, u6, l6, rfl, h1, h2, h3⟩
   obtain ⟨A6, c6, rfl, _, _⟩ := Kd.zaL h1.row; have F2 := J (E2.out.ext EN.out (E2.out.addps EN.out h2) (Fr.zaX h2)); have hv_ := EV.out.same (E2.out.var EV.out (Fr.zaX h2) (fun q hq => EN.out.nv.row.1 q hq))
   have FN := J (EN.out.vi.same (E2.out.var EN.out.vi (Fr.zaX h2) (fun q hq => EN.out.nv.row.1 q hq)))
   have HS2 := J ((zaB ((E2.out.var EN.out.vi (Fr.zaX h2) (fun q hq => EN.out.nv.row.1 q hq)).trans EN.out.box)).1)
   have HEND := J (F2.out.done hv_ h1 (zaF EN.out.near E2.out.fr.size h3)); obtain ⟨z0, z1, z2, z3, hz_⟩ := hv_.at_; have HZ := J hz_; have f0 := zab hz_ 0; have f1 := zab hz_ 1; have f2 := zab hz_ 2; have f3 := zab hz_ 3; obtain ⟨⟨d0, d1, d2, d3⟩, dl⟩ := zaB hz_
   clear h1 h2 h3 hv_ hz_; refine hK.out _ _ (fun _ => HS2.out) (fun _ => ?_)
   clear hK K; try simp only [Act.put, zai]
   refine zaI (i := 4) rfl qb (fun K hK => ?_)
   go_simp
   refine hK.out _ _ (fun h => Bool.noConfusion (show false = true from h)) (fun _ => ?_)
   clear hK K; try simp only [Act.put, zai]
   refine za3 qb (NoPanic.normal ?_) _
   clear d0 d1 d2 d3 dl f0 f1 f2 f3; go_wp2
   refine bodyPost_ret (zaM (r := .cell 2 24) rfl (.cell (W.heap.size) 24 _ (0, 0) _ rfl (za7 HZ.out) Try.underlying24 rfl qb .nil)) rfl ?_
   refine ⟨a9, by have := HHL1.out; have := HN1.out; omega, hhi, ?_⟩
   obtain ⟨wd8, u8, l8, e1, e2, e3, e4, e5⟩ := HEND.out; exact ⟨_, _, wd8, u8, l8, e1, e2, e3.more (by have := HHL1.out; have := HN1.out; omega), e4⟩
 have d38 : (q == 38) = false := by simp [h38]
 clear h34 h38; go_upto_region 7 with (first | (go_at_call 21; refine (HKF.out _ H2.out.ps).mono ?_; rintro e wj ⟨rfl, hb2⟩; have H3 := J (H2.out.below hb2); have HV3 := J (HV.out.below hb2); clear hb2 H2 HV) | (go_at_call 21; refine (HKF.out _ H3.out.ps).mono ?_; rintro e wk ⟨rfl, hb2⟩; have I2 := J (H3.out.below hb2); have IV := J (HV3.out.below hb2); clear hb2 H3 HV3))
 go_upto_region 8 with (go_at_call 81; refine (HPR.out wk I2.out.ps HLT.out).mono ?_; rintro e w3 ⟨b1, b1a, b1l, k1, w1, wd1, u1, l1, rfl, h1, h2, h3⟩; obtain ⟨A1, c1, rfl, _, _⟩ := Kd.zaL h2.row; have hs_ := I2.out.ret h1 h3; have J2 := J (hs_.newv (o := nodeO k1 w1 wd1 (.slice A1 l1.length c1))); have JN := J (NI.new_ (W := W) (r := none) hs_.fr.size (nv_new (b := W.heap.size) h2 I2.out.fr.size I2.out.fresh) (near_new (W := W) h2 I2.out.fr.size)); have JV := J ((VI.ret I2.out IV.out h3).newv (o := nodeO k1 w1 wd1 (.slice A1 l1.length c1))); have HW3_ := J (show W.heap.size < w3.heap.size from Nat.lt_of_lt_of_le IV.out.zav h3.size); clear h1 h2 h3 hs_ I2 IV)
 have HNE := J HW3_.out; clear HW3_; obtain ⟨X1, hX1⟩ : ∃ X1, X1 = w3.alloc (nodeO k1 w1 wd1 (.slice A1 l1.length c1)) := ⟨_, rfl⟩; rw [← hX1] at J2 JN JV; change Code.wp Try.prog _ _ _ (w3.alloc (nodeO k1 w1 wd1 (.slice A1 l1.length c1)))
 rw [← hX1]; clear hX1; go_loopg [] (lt.length - b1) (fun kq w' => ∃ (ai : Nat) (ki wi wdi : Int) (vi : Value) (li : List S24), a < ai ∧ ai ≤ lt.length ∧ zaa (kq = lt.length - ai) ∧ zaa (S2 g A c lt (fun q => W.heap.size ≤ q) (oky okx w3.heap.size) W none w' ai) ∧ zaa (NI W.heap.size (oky okx w3.heap.size) W none w' w3.heap.size ki wi wdi vi li (40 * (ai - a) - 20)) ∧ zaa (VI (oky okx w3.heap.size) W w' W.heap.size))
 case atStart => exact ⟨b1, k1, w1, wd1, _, l1, b1a, b1l, ⟨rfl⟩, J2, JN, JV⟩
 case round =>
  obtain ⟨ai, ki, wi, wdi, vi, li, hai, hail, HK, M2, MN, MV⟩ := hrel; obtain ⟨Ai, ci, rfl, _, _⟩ := Kd.zaL MN.out.nv.row; have HKC := J (za5 g A c lt ai wr M2.out.ps); obtain ⟨q2, hq2⟩ : ∃ q2, q2 = cu lt ai := ⟨_, rfl⟩; rw [← hq2] at HKC; have HQ2 := J hq2; clear hq2; by_cases h20 : q2 = 20
  ·have d20 : (q2 == 20) = true := by simp [h20]
   have HLI := J (cu_lt (l := lt) (a := ai) (by rw [← HQ2.out, h20]; omega))
   have HGI := J (hd_ge lt ai); clear h20; have HM1 := J (fun q hq => M2.out.sub q hq)
   have HM3 := J MN.out.out; have HM4 := J MV.out.out; go_upto_region 9 with (go_at_call 21; refine HKC.out.mono ?_; rintro e w7 ⟨rfl, hb2⟩; have O2 := J (M2.out.below hb2); have ON := J (MN.out.below hb2); have OV := J (MV.out.below hb2); clear hb2 M2 MN MV HKC)
   obtain ⟨x0, x1, x2, x3⟩ := ON.out.cells; go_upto_region 10 with (first | (go_at_call 45; refine (zb0 W.heap.size (oky okx w3.heap.size) w7 63 0 0 (.slice none 0 0) [] 1 _ _ _ _ _ (40 * (ai - a) - 20) (NV.leaf q9 q9 q9 (Nat.le_refl _)) O2.out.fr.size O2.out.fresh (ON.out.nv.mono (fun q hq => ⟨hq, qR⟩)) qz).mono ?_; rintro e w8 ⟨wd7, u7, l7, rfl, h1, h2, h3⟩; obtain ⟨A7, c7, rfl, _, _⟩ := Kd.zaL h1.row; have hfr : Fr g none w7 w8 := Fr.zaX h2; have P2 := J (O2.out.ret (O2.out.ps.keep (fun q hq => h2.block q (by have := O2.out.ps.lt; omega) qR)) hfr); have PN := J h1; have PA := J (zaF (v := .slice none 0 0) (.inl rfl) O2.out.fr.size h3 : Near W none _); have PT := J (VI.ret O2.out ON.out.vi hfr); have PV := J (VI.ret O2.out OV.out hfr); clear h1 h2 h3 hfr O2 ON OV x0 x1 x2 x3) | (go_at_call 23; refine (zbU g A c lt HTO.out ai W.heap.size (oky okx w3.heap.size) w8 63 0 wd7 _ l7 (1 + (40 * (ai - a) - 20)) P2.out.ps PN.out P2.out.fr.size (fun q hq => P2.out.hg q (P2.out.sub q hq)) P2.out.fresh Qk).mono ?_; rintro e w9 ⟨wd4, u4, l4, rfl, h1, h2, h3, h4⟩; obtain ⟨A4, c4, rfl, _, _⟩ := Kd.zaL h2.row; have hs_ : S2 g A c lt (fun q => W.heap.size ≤ q) (oky okx w3.heap.size) W none w9 (hd lt ai) := ⟨h1, P2.out.fr.trans h3 (near_row PA.out), P2.out.gW, P2.out.hg, P2.out.sub, fun q hq => P2.out.fresh q (Nat.le_trans h3.size hq)⟩; have hr_ : ∀ q, (Value.slice A7 l7.length c7).ownBlock = some q → (oky okx w3.heap.size) q := fun q hq => PN.out.row.1 q hq; have Q2 := J (hs_.newv (o := nodeO 63 0 wd4 (.slice A4 l4.length c4))); have QN := J (NI.new_ (W := W) (r := none) hs_.fr.size h2 (zaF PA.out P2.out.fr.size h4)); have QT := J ((PT.out.same (P2.out.var PT.out h3 hr_)).newv (o := nodeO 63 0 wd4 (.slice A4 l4.length c4))); have QV := J ((PV.out.same (P2.out.var PV.out h3 hr_)).newv (o := nodeO 63 0 wd4 (.slice A4 l4.length c4))); have HSZ8 := J (show w3.heap.size < w9.heap.size from Nat.lt_of_lt_of_le PT.out.zav h3.size); clear h1 h2 h3 h4 hs_ hr_ P2 PN PA PT PV))
   obtain ⟨X4, hX1⟩ : ∃ X1, X1 = w9.alloc (nodeO 63 0 wd4 (.slice A4 l4.length c4)) := ⟨_, rfl⟩; rw [← hX1] at Q2 QN QT QV; change Code.wp Try.prog _ _ _ (w9.alloc (nodeO 63 0 wd4 (.slice A4 l4.length c4)))
   rw [← hX1]; clear hX1; obtain ⟨N4, hN4⟩ : ∃ N4, N4 = 1 + (40 * (ai - a) - 20) + (hd lt ai - ai) := ⟨_, rfl⟩; rw [← hN4] at QN; have HN4 := J hN4; clear hN4; have HSZ := J (show N4 + 40 * (lt.length - hd lt ai) ≤ 899990 by have := HN4.out; have := HLI.out; have := HGI.out; have := HLEN.out; omega)
   have HBW := J (Nat.le_refl W.heap.size); have D2 := J (Q2.out.below (Y := X4.drew) (Below.refl _ _).drew); have DN := J (QN.out.below (Y := X4.drew) (Below.refl _ _).drew); have DV := J (QT.out.below (Y := X4.drew) (Below.refl _ _).drew); have DRV := J (QV.out.below (Y := X4.drew) (Below.refl _ _).drew); have HS0 := J DN.out.cells; clear Q2 QN QT QV; refine wp_region_noPanic (zba [0, 1, 2, 3] (fun W' => W'.cell? ⟨w9.heap.size, 0, none⟩ = some (.int .u8 63) ∧ W'.cell? ⟨w9.heap.size, 1, none⟩ = some (.int .u8 0) ∧ W'.cell? ⟨w9.heap.size, 2, none⟩ = some (.int .i64 wd4) ∧ W'.cell? ⟨w9.heap.size, 3, none⟩ = some (.slice A4 l4.length c4)) qb ?_)
   refine zah 0 rfl HS0.out (fun _ h => qj) ?_
   simp only [Act.put, zai]; refine zah 1 rfl HS0.out (fun _ h => qj) ?_
   simp only [Act.put, zai]; refine zaI (i := 2) rfl qb (fun K hK => ?_)
   go_simp
   refine (HAR.out (hd lt ai) (by have := HGI.out; omega) X4.drew D2.out.ps (by rw [hd_hd]; exact HLI.out)).mono ?_
   rintro e w5 ⟨a9, hlo, hhi, k9, w9_, wd9, u9, l9, rfl, p1, p2, p3⟩
   obtain ⟨kA, kc, rfl, _, _⟩ := Kd.zaL p2.row; have E2 := J (D2.out.ret p1 p3); have EN := J (NI.ret D2.out DN.out p3); have EV := J (VI.ret D2.out DV.out p3); have ERV := J (VI.ret D2.out DRV.out p3); have HKID := J (kid_nv (b := W.heap.size) (okx := (oky (oky okx w3.heap.size) w9.heap.size)) p2 (Nat.le_trans HBW.out D2.out.fr.size) D2.out.fresh (fun q hq => Kd.N_lt DN.out.nv.row q hq))
   have HS1 := J EN.out.cells; clear p1 p2 p3; refine hK.out _ _ (fun _ => HS1.out) (fun _ => ?_)
   clear hK K; try simp only [Act.put, zai]
   refine zaI (i := 3) rfl qb (fun K hK => ?_)
   go_simp
   refine (zb0 W.heap.size (oky (oky okx w3.heap.size) w9.heap.size) w5 63 0 wd4 _ l4 N4 _ _ _ _ _ _ EN.out.nv (Nat.le_trans HBW.out E2.out.fr.size) E2.out.fresh HKID.out qG).mono ?_
   rintro e w6 ⟨wd6, u6, l6, rfl, h1, h2, h3⟩
   obtain ⟨A6, c6, rfl, _, _⟩ := Kd.zaL h1.row; have F2 := J (E2.out.ext EN.out (E2.out.addps EN.out h2) (Fr.zaX h2)); have hv_ := EV.out.same (E2.out.var EV.out (Fr.zaX h2) (fun q hq => EN.out.nv.row.1 q hq))
   have FN := J (EN.out.vi.same (E2.out.var EN.out.vi (Fr.zaX h2) (fun q hq => EN.out.nv.row.1 q hq)))
   have HS2 := J ((zaB ((E2.out.var EN.out.vi (Fr.zaX h2) (fun q hq => EN.out.nv.row.1 q hq)).trans EN.out.box)).1)
   have R2 := J (F2.out.put (k := 63) (w := 0) (wd := wd6) (u := .slice A6 l6.length c6) hv_); have RN := J (NI.put hv_ h1 (zaF EN.out.near E2.out.fr.size h3)); have RV := J ((ERV.out.same (E2.out.var ERV.out (Fr.zaX h2) (fun q hq => EN.out.nv.row.1 q hq))).put (p := w3.heap.size) (k := 63) (w := 0) (wd := wd6) (u := .slice A6 l6.length c6) (fun e_ => qr))
   obtain ⟨z0, z1, z2, z3, hz_⟩ := hv_.at_; have HZ := J hz_; have f0 := zab hz_ 0; have f1 := zab hz_ 1; have f2 := zab hz_ 2; have f3 := zab hz_ 3; obtain ⟨⟨d0, d1, d2, d3⟩, dl⟩ := zaB hz_
   clear h1 h2 h3 hv_ hz_; refine hK.out _ _ (fun _ => HS2.out) (fun _ => ?_)
   clear hK K; try simp only [Act.put, zai]
   refine zaI (i := 4) rfl qb (fun K hK => ?_)
   go_simp
   refine hK.out _ _ (fun h => Bool.noConfusion (show false = true from h)) (fun _ => ?_)
   clear hK K; try simp only [Act.put, zai]
   refine za3 qb (NoPanic.normal ?_) _
   obtain ⟨X6, hX1⟩ : ∃ X1, X1 = putN w6 w3.heap.size 63 0 wd6 (.slice A6 l6.length c6) := ⟨_, rfl⟩; rw [← hX1] at R2 RN RV; simp only [putN] at hX1; rw [← hX1]; clear hX1 f0 f1 f2 f3 d0 d1 d2 d3 dl; go_wp2_with fail
   go_roundg (lt.length - a9)
   case measure => have := HK.out; have := HGI.out; omega
   case rel => exact ⟨a9, 63, 0, wd6, _, l6, by have := HGI.out; omega, hhi, ⟨rfl⟩, ⟨R2.out.okx HM1.out (fun q hq => (R2.out.fresh q hq).1)⟩, ⟨(RN.out.okx (fun q hq => hq.1) HM3.out).more (by have := HN4.out; have := HGI.out; omega)⟩, ⟨RV.out.okx HM4.out⟩⟩
  ·have d20 : (q2 == 20) = false := by simp [h20]
   clear h20; go_upto_region 11 with (go_at_call 21; refine HKC.out.mono ?_; rintro e w7 ⟨rfl, hb2⟩; have O2 := J (M2.out.below hb2); have ON := J (MN.out.below hb2); have OV := J (MV.out.below hb2); clear hb2 M2 MN MV HKC)
   obtain ⟨x0, x1, x2, x3⟩ := ON.out.cells; have HEND := J (O2.out.done OV.out ON.out.nv ON.out.near); obtain ⟨z0, z1, z2, z3, hz_⟩ := OV.out.at_; have HZ := J hz_; have f0 := zab hz_ 0; have f1 := zab hz_ 1; have f2 := zab hz_ 2; have f3 := zab hz_ 3; obtain ⟨⟨d0, d1, d2, d3⟩, dl⟩ := zaB hz_
   clear hz_; go_wp2
   refine bodyPost_ret (zaM (r := .cell 2 24) rfl (.cell (W.heap.size) 24 _ (0, 0) _ rfl (za7 HZ.out) Try.underlying24 rfl qb .nil)) rfl ?_
   refine ⟨ai, q9, hail, ?_⟩
   obtain ⟨wd8, u8, l8, e1, e2, e3, e4, e5⟩ := HEND.out; exact ⟨_, _, wd8, u8, l8, e1, e2, e3.more q9, e4⟩
def CExprS (g : Nat) (A : Option Addr) (c : Nat) (lt : List S40) (a : Nat) : Prop := ∀ (b : Nat) (ok : Nat → Prop) (W : World) (k w wd : Int) (v : Value) (l : List S24) (N : Nat), PS W g A c lt a → NV b ok W k w wd v l N → b ≤ W.heap.size → (∀ q, ok q → g < q) → (∀ q, W.heap.size ≤ q → ok q) → N + 40 * (lt.length - a) + 10 ≤ 900000 →
  Calls Try.prog 61 #[.pointer (some ⟨g, 0, none⟩), .agg #[.int .u8 k, .int .u8 w, .int .i64 wd, v]] W fun e W' => ∃ a', a ≤ a' ∧ a' ≤ lt.length ∧ (zaE.f (cu lt a) = some true → a < a') ∧ Ext g A c lt b ok W k w v.ownBlock a' (if a' = a then N + 1 else N + 40 * (a' - a) - 19) e W'
def CBlock (g : Nat) (A : Option Addr) (c : Nat) (lt : List S40) (a : Nat) : Prop := ∀ (b : Nat) (ok : Nat → Prop) (W : World) (k w wd : Int) (v : Value) (l : List S24) (N : Nat), PS W g A c lt a → NV b ok W k w wd v l N → b ≤ W.heap.size → (∀ q, ok q → g < q) → (∀ q, W.heap.size ≤ q → ok q) → N + 40 * (lt.length - a) + 10 ≤ 900000 →
  Calls Try.prog 63 #[.pointer (some ⟨g, 0, none⟩), .agg #[.int .u8 k, .int .u8 w, .int .i64 wd, v]] W fun e W' => ∃ a', a ≤ a' ∧ a' ≤ lt.length ∧ Ext g A c lt b ok W k w v.ownBlock a' (N + 40 * (a' - a) + 1) e W'
theorem stmt_vals {x r : Int} (h : zaC.f x = some r) (h0 : r ≠ 0) : r = 53 ∨ r = 54 ∨ r = 56 ∨ r = 57 ∨ r = 58 ∨ r = 52 ∨ (r = 59 ∧ zaE.f x = some true) := by
 unfold zaC.f at h
 obtain ⟨t, ht⟩ := expr_tot x; rw [ht] at h; repeat' split at h
 all_goals first
  | (injection h with h; omega)
  | (cases t <;> simp at h <;> first | exact absurd h.symm h0 | exact .inr (.inr (.inr (.inr (.inr (.inr ⟨h.symm, ht⟩))))))
theorem st_let (g : Nat) (A : Option Addr) (c : Nat) (lt : List S40) (htk : TkOk lt) (a : Nat) (hK : zaC.f (cu lt a) = some 53) (hexp : ∀ a1, a < a1 → CExpr g A c lt a1) (W : World) (hP : PS W g A c lt a) :
  Calls Try.prog 46 #[.pointer (some ⟨g, 0, none⟩)] W fun e W' => ∃ a', a < a' ∧ a' ≤ lt.length ∧ Ret g A c lt W a' (40 * (a' - a) - 10) e W' := by
 have HTO := J htk; have HLT := J (cu_lt (stmt_ne hK q9))
 have HLEN := J hP.len; have HLE := J (And.intro hP.le (hd_ge lt a)); have HEXP := J hexp; clear htk hexp; have hu := Try.underlying24; go_enter Try.func46, Try.ntmps46
 go_upto_region 1 with (fail)
 obtain ⟨X, hX⟩ : ∃ X, X = W.alloc (nodeO 0 0 0 (.slice none 0 0)) := ⟨_, rfl⟩; obtain ⟨h2, hv⟩ := S2.start1 hP hX; change Code.wp Try.prog _ _ _ (W.alloc (nodeO 0 0 0 (.slice none 0 0)))
 rw [← hX]; generalize oky (fun q => W.heap.size ≤ q) W.heap.size = okx at h2 hv
 have I2 := J h2; have IV := J hv; clear h2 hv hX hP; have HKC := J (za5 g A c lt a X I2.out.ps); obtain ⟨q, hq⟩ : ∃ q, q = cu lt a := ⟨_, rfl⟩; rw [← hq] at HKC hK; have HQ := J hq; have HRR := J hK; clear hq hK; go_upto_region 2 with (first | (go_at_call 21; refine HKC.out.mono ?_; rintro e w2 ⟨rfl, hb2⟩; have H2 := J (I2.out.below hb2); have HV := J (IV.out.below hb2); clear hb2 I2 IV HKC) | (go_at_call 43; refine (zaC.calls _ _ _ HRR.out).mono ?_; rintro e w3 ⟨rfl, hd2⟩; have hb2 := hd2.below; clear hd2; have G2 := J (H2.out.below hb2); have GV := J (HV.out.below hb2); clear hb2 H2 HV))
 have J2 := J (G2.out.newv (o := nodeO 53 0 0 (.slice none 0 0))); have JN := J (NI.new_ (b := W.heap.size) (okx := okx) (W := W) (r := none) (X := w3) (N := 1) G2.out.fr.size (NV.leaf (k := 53) (w := 0) (wd := 0) q9 q9 q9 (Nat.le_refl _)) (.inl rfl))
 have JV := J (GV.out.newv (o := nodeO 53 0 0 (.slice none 0 0))); have HNE := J GV.out.zav; obtain ⟨X1, hX1⟩ : ∃ X1, X1 = w3.alloc (nodeO 53 0 0 (.slice none 0 0)) := ⟨_, rfl⟩; rw [← hX1] at J2 JN JV; change Code.wp Try.prog _ _ _ (w3.alloc (nodeO 53 0 0 (.slice none 0 0)))
 rw [← hX1]; clear hX1 G2 GV; obtain ⟨hla, hlh⟩ := HLE.out; have hlt_ := HLT.out; have hln_ := HLEN.out; obtain ⟨x0, x1, x2, x3⟩ := JN.out.cells; go_upto_region 5 with (go_at_call 47; refine (zbq g A c lt HTO.out a W.heap.size (oky okx w3.heap.size) X1 53 0 0 _ [] 1 J2.out.ps JN.out.nv J2.out.fr.size (fun q hq => J2.out.hg q (J2.out.sub q hq)) J2.out.fresh hlt_ q9).mono ?_; rintro e w11 ⟨wd11, u11, l11, rfl, h1, h2, h3, h4⟩; obtain ⟨A11, c11, rfl, _, _⟩ := Kd.zaL h2.row; have hp_ := JN.out.vi.same (J2.out.var JN.out.vi h3 (fun q hq => JN.out.nv.row.1 q hq)); have J11_ := J ((J2.out.ext JN.out h1 h3).put (k := 53) (w := 0) (wd := wd11) (u := .slice A11 l11.length c11) hp_); have N11_ := J (NI.put hp_ h2 (zaF JN.out.near J2.out.fr.size h4)); have hv_ := JV.out.same (J2.out.var JV.out h3 (fun q hq => JN.out.nv.row.1 q hq)); have V11_ := J (hv_.put (p := w3.heap.size) (k := 53) (w := 0) (wd := wd11) (u := .slice A11 l11.length c11) (fun e_ => qr)); clear hv_; obtain ⟨z0, z1, z2, z3, hz_⟩ := hp_.at_; have f0 := zab hz_ 0; have f1 := zab hz_ 1; have f2 := zab hz_ 2; have f3 := zab hz_ 3; obtain ⟨⟨d0, d1, d2, d3⟩, dl⟩ := zaB hz_; clear h1 h2 h3 h4 hp_ hz_ x0 x1 x2 x3 J2 JN JV)
 obtain ⟨X11, hX1⟩ : ∃ X1, X1 = putN w11 w3.heap.size 53 0 wd11 (.slice A11 l11.length c11) := ⟨_, rfl⟩; rw [← hX1] at J11_ N11_ V11_; simp only [putN] at hX1; rw [← hX1]; clear hX1 f0 f1 f2 f3 d0 d1 d2 d3 dl; obtain ⟨b11, hb_⟩ : ∃ b_, b_ = hd lt a + 1 := ⟨_, rfl⟩; have hh_ := hd_ge lt a; have b11a : a < b11 := by omega
 have b11l : b11 ≤ lt.length := by omega
 rw [← hb_] at J11_; have n_ := J (N11_.out.more (N' := 40 * (b11 - a) - 38) q9)
 clear N11_ hb_ hh_; have N11_ := n_; clear n_; obtain ⟨x0, x1, x2, x3⟩ := N11_.out.cells; go_upto_region 6 with (go_at_call 60; refine (zbA g A c lt HTO.out b11 W.heap.size (oky okx w3.heap.size) X11 53 0 wd11 _ l11 (40 * (b11 - a) - 38) 6 q9 J11_.out.ps N11_.out.nv J11_.out.fr.size (fun q hq => J11_.out.hg q (J11_.out.sub q hq)) J11_.out.fresh q9).mono ?_; rintro e w12 ⟨b12, b12a, b12l, wd12, u12, l12, rfl, h1, h2, h3, h4⟩; obtain ⟨A12, c12, rfl, _, _⟩ := Kd.zaL h2.row; have hp_ := N11_.out.vi.same (J11_.out.var N11_.out.vi h3 (fun q hq => N11_.out.nv.row.1 q hq)); have J12_ := J ((J11_.out.ext N11_.out h1 h3).put (k := 53) (w := 0) (wd := wd12) (u := .slice A12 l12.length c12) hp_); have N12_ := J (NI.put hp_ h2 (zaF N11_.out.near J11_.out.fr.size h4)); have hv_ := V11_.out.same (J11_.out.var V11_.out h3 (fun q hq => N11_.out.nv.row.1 q hq)); have V12_ := J (hv_.put (p := w3.heap.size) (k := 53) (w := 0) (wd := wd12) (u := .slice A12 l12.length c12) (fun e_ => qr)); clear hv_; obtain ⟨z0, z1, z2, z3, hz_⟩ := hp_.at_; have f0 := zab hz_ 0; have f1 := zab hz_ 1; have f2 := zab hz_ 2; have f3 := zab hz_ 3; obtain ⟨⟨d0, d1, d2, d3⟩, dl⟩ := zaB hz_; clear h1 h2 h3 h4 hp_ hz_ x0 x1 x2 x3 J11_ N11_ V11_)
 obtain ⟨X12, hX1⟩ : ∃ X1, X1 = putN w12 w3.heap.size 53 0 wd12 (.slice A12 l12.length c12) := ⟨_, rfl⟩; rw [← hX1] at J12_ N12_ V12_; simp only [putN] at hX1; rw [← hX1]; clear hX1 f0 f1 f2 f3 d0 d1 d2 d3 dl; have n_ := J (N12_.out.more (N' := 40 * (b12 - a) - 37) q9)
 clear N12_; have N12_ := n_; clear n_; obtain ⟨x0, x1, x2, x3⟩ := N12_.out.cells; go_upto_region 7 with (go_at_call 60; refine (zbA g A c lt HTO.out b12 W.heap.size (oky okx w3.heap.size) X12 53 0 wd12 _ l12 (40 * (b12 - a) - 37) 26 q9 J12_.out.ps N12_.out.nv J12_.out.fr.size (fun q hq => J12_.out.hg q (J12_.out.sub q hq)) J12_.out.fresh q9).mono ?_; rintro e w13 ⟨b13, b13a, b13l, wd13, u13, l13, rfl, h1, h2, h3, h4⟩; obtain ⟨A13, c13, rfl, _, _⟩ := Kd.zaL h2.row; have hp_ := N12_.out.vi.same (J12_.out.var N12_.out.vi h3 (fun q hq => N12_.out.nv.row.1 q hq)); have J13_ := J ((J12_.out.ext N12_.out h1 h3).put (k := 53) (w := 0) (wd := wd13) (u := .slice A13 l13.length c13) hp_); have N13_ := J (NI.put hp_ h2 (zaF N12_.out.near J12_.out.fr.size h4)); have hv_ := V12_.out.same (J12_.out.var V12_.out h3 (fun q hq => N12_.out.nv.row.1 q hq)); have V13_ := J (hv_.put (p := w3.heap.size) (k := 53) (w := 0) (wd := wd13) (u := .slice A13 l13.length c13) (fun e_ => qr)); clear hv_; obtain ⟨z0, z1, z2, z3, hz_⟩ := hp_.at_; have f0 := zab hz_ 0; have f1 := zab hz_ 1; have f2 := zab hz_ 2; have f3 := zab hz_ 3; obtain ⟨⟨d0, d1, d2, d3⟩, dl⟩ := zaB hz_; clear h1 h2 h3 h4 hp_ hz_ x0 x1 x2 x3 J12_ N12_ V12_)
 obtain ⟨X13, hX1⟩ : ∃ X1, X1 = putN w13 w3.heap.size 53 0 wd13 (.slice A13 l13.length c13) := ⟨_, rfl⟩; rw [← hX1] at J13_ N13_ V13_; simp only [putN] at hX1; rw [← hX1]; clear hX1 f0 f1 f2 f3 d0 d1 d2 d3 dl; have n_ := J (N13_.out.more (N' := 40 * (b13 - a) - 36) q9)
 clear N13_; have N13_ := n_; clear n_; obtain ⟨x0, x1, x2, x3⟩ := N13_.out.cells; go_upto_region 8 with (go_at_call 61; refine (HEXP.out b13 q9 W.heap.size (oky okx w3.heap.size) X13 53 0 wd13 _ l13 (40 * (b13 - a) - 36) J13_.out.ps N13_.out.nv J13_.out.fr.size (fun q hq => J13_.out.hg q (J13_.out.sub q hq)) J13_.out.fresh q9).mono ?_; rintro e w14 ⟨b14, b14a, b14l, wd14, u14, l14, rfl, h1, h2, h3, h4⟩; obtain ⟨A14, c14, rfl, _, _⟩ := Kd.zaL h2.row; have hp_ := N13_.out.vi.same (J13_.out.var N13_.out.vi h3 (fun q hq => N13_.out.nv.row.1 q hq)); have J14_ := J ((J13_.out.ext N13_.out h1 h3).put (k := 53) (w := 0) (wd := wd14) (u := .slice A14 l14.length c14) hp_); have N14_ := J (NI.put hp_ h2 (zaF N13_.out.near J13_.out.fr.size h4)); have hv_ := V13_.out.same (J13_.out.var V13_.out h3 (fun q hq => N13_.out.nv.row.1 q hq)); have V14_ := J (hv_.put (p := w3.heap.size) (k := 53) (w := 0) (wd := wd14) (u := .slice A14 l14.length c14) (fun e_ => qr)); clear hv_; obtain ⟨z0, z1, z2, z3, hz_⟩ := hp_.at_; have f0 := zab hz_ 0; have f1 := zab hz_ 1; have f2 := zab hz_ 2; have f3 := zab hz_ 3; obtain ⟨⟨d0, d1, d2, d3⟩, dl⟩ := zaB hz_; clear h1 h2 h3 h4 hp_ hz_ x0 x1 x2 x3 J13_ N13_ V13_)
 obtain ⟨X14, hX1⟩ : ∃ X1, X1 = putN w14 w3.heap.size 53 0 wd14 (.slice A14 l14.length c14) := ⟨_, rfl⟩; rw [← hX1] at J14_ N14_ V14_; simp only [putN] at hX1; rw [← hX1]; clear hX1 f0 f1 f2 f3 d0 d1 d2 d3 dl; have n_ := J (N14_.out.more (N' := 40 * (b14 - a) - 35) q9)
 clear N14_; have N14_ := n_; clear n_; obtain ⟨x0, x1, x2, x3⟩ := N14_.out.cells; go_wp2_with (go_at_call 60; refine (zbA g A c lt HTO.out b14 W.heap.size (oky okx w3.heap.size) X14 53 0 wd14 _ l14 (40 * (b14 - a) - 35) 25 q9 J14_.out.ps N14_.out.nv J14_.out.fr.size (fun q hq => J14_.out.hg q (J14_.out.sub q hq)) J14_.out.fresh q9).mono ?_; rintro e w99 ⟨b9_, b9_a, b9_l, wd99, u99, l99, rfl, h1, h2, h3, h4⟩; obtain ⟨A99, c99, rfl, _, _⟩ := Kd.zaL h2.row; have hv_ := V14_.out.same (J14_.out.var V14_.out h3 (fun q hq => N14_.out.nv.row.1 q hq)); have HEND := J ((J14_.out.ext N14_.out h1 h3).done hv_ h2 (zaF N14_.out.near J14_.out.fr.size h4)); obtain ⟨z0, z1, z2, z3, hz_⟩ := hv_.at_; have HZ := J hz_; have f0 := zab hz_ 0; have f1 := zab hz_ 1; have f2 := zab hz_ 2; have f3 := zab hz_ 3; obtain ⟨⟨d0, d1, d2, d3⟩, dl⟩ := zaB hz_; clear h1 h2 h3 h4 hv_ hz_ x0 x1 x2 x3)
 refine bodyPost_ret (zaM (r := .cell 2 24) rfl (.cell (W.heap.size) 24 _ (0, 0) _ rfl (za7 HZ.out) Try.underlying24 rfl qb .nil)) rfl ?_
 refine ⟨b9_, q9, b9_l, ?_⟩
 obtain ⟨wd8, u8, l8, e1, e2, e3, e4, e5⟩ := HEND.out; exact ⟨_, _, wd8, u8, l8, e1, e2, e3.more q9, e4⟩
theorem st_fn (g : Nat) (A : Option Addr) (c : Nat) (lt : List S40) (htk : TkOk lt) (a : Nat) (hK : zaC.f (cu lt a) = some 54) (hbl : ∀ a1, a < a1 → CBlock g A c lt a1) (W : World) (hP : PS W g A c lt a) :
  Calls Try.prog 46 #[.pointer (some ⟨g, 0, none⟩)] W fun e W' => ∃ a', a < a' ∧ a' ≤ lt.length ∧ Ret g A c lt W a' (40 * (a' - a) - 10) e W' := by
 have HTO := J htk; have HLT := J (cu_lt (stmt_ne hK q9))
 have HLEN := J hP.len; have HLE := J (And.intro hP.le (hd_ge lt a)); have HBL := J hbl; clear htk hbl; have hu := Try.underlying24; go_enter Try.func46, Try.ntmps46
 go_upto_region 1 with (fail)
 obtain ⟨X, hX⟩ : ∃ X, X = W.alloc (nodeO 0 0 0 (.slice none 0 0)) := ⟨_, rfl⟩; obtain ⟨h2, hv⟩ := S2.start1 hP hX; change Code.wp Try.prog _ _ _ (W.alloc (nodeO 0 0 0 (.slice none 0 0)))
 rw [← hX]; generalize oky (fun q => W.heap.size ≤ q) W.heap.size = okx at h2 hv
 have I2 := J h2; have IV := J hv; clear h2 hv hX hP; have HKC := J (za5 g A c lt a X I2.out.ps); obtain ⟨q, hq⟩ : ∃ q, q = cu lt a := ⟨_, rfl⟩; rw [← hq] at HKC hK; have HQ := J hq; have HRR := J hK; clear hq hK; go_upto_region 2 with (first | (go_at_call 21; refine HKC.out.mono ?_; rintro e w2 ⟨rfl, hb2⟩; have H2 := J (I2.out.below hb2); have HV := J (IV.out.below hb2); clear hb2 I2 IV HKC) | (go_at_call 43; refine (zaC.calls _ _ _ HRR.out).mono ?_; rintro e w3 ⟨rfl, hd2⟩; have hb2 := hd2.below; clear hd2; have G2 := J (H2.out.below hb2); have GV := J (HV.out.below hb2); clear hb2 H2 HV))
 have J2 := J (G2.out.newv (o := nodeO 54 0 0 (.slice none 0 0))); have JN := J (NI.new_ (b := W.heap.size) (okx := okx) (W := W) (r := none) (X := w3) (N := 1) G2.out.fr.size (NV.leaf (k := 54) (w := 0) (wd := 0) q9 q9 q9 (Nat.le_refl _)) (.inl rfl))
 have JV := J (GV.out.newv (o := nodeO 54 0 0 (.slice none 0 0))); have HNE := J GV.out.zav; obtain ⟨X1, hX1⟩ : ∃ X1, X1 = w3.alloc (nodeO 54 0 0 (.slice none 0 0)) := ⟨_, rfl⟩; rw [← hX1] at J2 JN JV; change Code.wp Try.prog _ _ _ (w3.alloc (nodeO 54 0 0 (.slice none 0 0)))
 rw [← hX1]; clear hX1 G2 GV; obtain ⟨hla, hlh⟩ := HLE.out; have hlt_ := HLT.out; have hln_ := HLEN.out; obtain ⟨x0, x1, x2, x3⟩ := JN.out.cells; go_upto_region 11 with (go_at_call 47; refine (zbq g A c lt HTO.out a W.heap.size (oky okx w3.heap.size) X1 54 0 0 _ [] 1 J2.out.ps JN.out.nv J2.out.fr.size (fun q hq => J2.out.hg q (J2.out.sub q hq)) J2.out.fresh hlt_ q9).mono ?_; rintro e w11 ⟨wd11, u11, l11, rfl, h1, h2, h3, h4⟩; obtain ⟨A11, c11, rfl, _, _⟩ := Kd.zaL h2.row; have hp_ := JN.out.vi.same (J2.out.var JN.out.vi h3 (fun q hq => JN.out.nv.row.1 q hq)); have J11_ := J ((J2.out.ext JN.out h1 h3).put (k := 54) (w := 0) (wd := wd11) (u := .slice A11 l11.length c11) hp_); have N11_ := J (NI.put hp_ h2 (zaF JN.out.near J2.out.fr.size h4)); have hv_ := JV.out.same (J2.out.var JV.out h3 (fun q hq => JN.out.nv.row.1 q hq)); have V11_ := J (hv_.put (p := w3.heap.size) (k := 54) (w := 0) (wd := wd11) (u := .slice A11 l11.length c11) (fun e_ => qr)); clear hv_; obtain ⟨z0, z1, z2, z3, hz_⟩ := hp_.at_; have f0 := zab hz_ 0; have f1 := zab hz_ 1; have f2 := zab hz_ 2; have f3 := zab hz_ 3; obtain ⟨⟨d0, d1, d2, d3⟩, dl⟩ := zaB hz_; clear h1 h2 h3 h4 hp_ hz_ x0 x1 x2 x3 J2 JN JV)
 obtain ⟨X11, hX1⟩ : ∃ X1, X1 = putN w11 w3.heap.size 54 0 wd11 (.slice A11 l11.length c11) := ⟨_, rfl⟩; rw [← hX1] at J11_ N11_ V11_; simp only [putN] at hX1; rw [← hX1]; clear hX1 f0 f1 f2 f3 d0 d1 d2 d3 dl; obtain ⟨b11, hb_⟩ : ∃ b_, b_ = hd lt a + 1 := ⟨_, rfl⟩; have hh_ := hd_ge lt a; have b11a : a < b11 := by omega
 have b11l : b11 ≤ lt.length := by omega
 rw [← hb_] at J11_; have n_ := J (N11_.out.more (N' := 40 * (b11 - a) - 38) q9)
 clear N11_ hb_ hh_; have N11_ := n_; clear n_; obtain ⟨x0, x1, x2, x3⟩ := N11_.out.cells; go_upto_region 12 with (go_at_call 60; refine (zbA g A c lt HTO.out b11 W.heap.size (oky okx w3.heap.size) X11 54 0 wd11 _ l11 (40 * (b11 - a) - 38) 6 q9 J11_.out.ps N11_.out.nv J11_.out.fr.size (fun q hq => J11_.out.hg q (J11_.out.sub q hq)) J11_.out.fresh q9).mono ?_; rintro e w12 ⟨b12, b12a, b12l, wd12, u12, l12, rfl, h1, h2, h3, h4⟩; obtain ⟨A12, c12, rfl, _, _⟩ := Kd.zaL h2.row; have hp_ := N11_.out.vi.same (J11_.out.var N11_.out.vi h3 (fun q hq => N11_.out.nv.row.1 q hq)); have J12_ := J ((J11_.out.ext N11_.out h1 h3).put (k := 54) (w := 0) (wd := wd12) (u := .slice A12 l12.length c12) hp_); have N12_ := J (NI.put hp_ h2 (zaF N11_.out.near J11_.out.fr.size h4)); have hv_ := V11_.out.same (J11_.out.var V11_.out h3 (fun q hq => N11_.out.nv.row.1 q hq)); have V12_ := J (hv_.put (p := w3.heap.size) (k := 54) (w := 0) (wd := wd12) (u := .slice A12 l12.length c12) (fun e_ => qr)); clear hv_; obtain ⟨z0, z1, z2, z3, hz_⟩ := hp_.at_; have f0 := zab hz_ 0; have f1 := zab hz_ 1; have f2 := zab hz_ 2; have f3 := zab hz_ 3; obtain ⟨⟨d0, d1, d2, d3⟩, dl⟩ := zaB hz_; clear h1 h2 h3 h4 hp_ hz_ x0 x1 x2 x3 J11_ N11_ V11_)
 obtain ⟨X12, hX1⟩ : ∃ X1, X1 = putN w12 w3.heap.size 54 0 wd12 (.slice A12 l12.length c12) := ⟨_, rfl⟩; rw [← hX1] at J12_ N12_ V12_; simp only [putN] at hX1; rw [← hX1]; clear hX1 f0 f1 f2 f3 d0 d1 d2 d3 dl; have n_ := J (N12_.out.more (N' := 40 * (b12 - a) - 37) q9)
 clear N12_; have N12_ := n_; clear n_; have hhl_ := hd_le b12l; obtain ⟨x0, x1, x2, x3⟩ := N12_.out.cells; go_upto_region 13 with (go_at_call 23; refine (zbU g A c lt HTO.out b12 W.heap.size (oky okx w3.heap.size) X12 54 0 wd12 _ l12 (40 * (b12 - a) - 37) J12_.out.ps N12_.out.nv J12_.out.fr.size (fun q hq => J12_.out.hg q (J12_.out.sub q hq)) J12_.out.fresh (by have := hhl_; omega)).mono ?_; rintro e w13 ⟨wd13, u13, l13, rfl, h1, h2, h3, h4⟩; obtain ⟨A13, c13, rfl, _, _⟩ := Kd.zaL h2.row; have hp_ := N12_.out.vi.same (J12_.out.var N12_.out.vi h3 (fun q hq => N12_.out.nv.row.1 q hq)); have J13_ := J ((J12_.out.ext N12_.out h1 h3).put (k := 54) (w := 0) (wd := wd13) (u := .slice A13 l13.length c13) hp_); have N13_ := J (NI.put hp_ h2 (zaF N12_.out.near J12_.out.fr.size h4)); have hv_ := V12_.out.same (J12_.out.var V12_.out h3 (fun q hq => N12_.out.nv.row.1 q hq)); have V13_ := J (hv_.put (p := w3.heap.size) (k := 54) (w := 0) (wd := wd13) (u := .slice A13 l13.length c13) (fun e_ => qr)); clear hv_; obtain ⟨z0, z1, z2, z3, hz_⟩ := hp_.at_; have f0 := zab hz_ 0; have f1 := zab hz_ 1; have f2 := zab hz_ 2; have f3 := zab hz_ 3; obtain ⟨⟨d0, d1, d2, d3⟩, dl⟩ := zaB hz_; clear h1 h2 h3 h4 hp_ hz_ x0 x1 x2 x3 J12_ N12_ V12_)
 obtain ⟨X13, hX1⟩ : ∃ X1, X1 = putN w13 w3.heap.size 54 0 wd13 (.slice A13 l13.length c13) := ⟨_, rfl⟩; rw [← hX1] at J13_ N13_ V13_; simp only [putN] at hX1; rw [← hX1]; clear hX1 f0 f1 f2 f3 d0 d1 d2 d3 dl; obtain ⟨b13, hb_⟩ : ∃ b_, b_ = hd lt b12 := ⟨_, rfl⟩; have hh_ := hd_ge lt b12; have b13a : b12 ≤ b13 := by omega
 have b13l : b13 ≤ lt.length := by omega
 rw [← hb_] at J13_; have n_ := J (N13_.out.more (N' := 40 * (b13 - a) - 37) q9)
 clear N13_ hb_ hh_; have N13_ := n_; clear n_; have HSZ := J (show 40 * (b13 - a) - 37 + (40 * (lt.length - b13) + 3) ≤ 899990 by omega)
 have HBW := J (Nat.le_refl W.heap.size); have RO := J N13_.out.vi; have D2 := J (J13_.out.below (Y := X13.drew) (Below.refl _ _).drew); have DN := J (N13_.out.below (Y := X13.drew) (Below.refl _ _).drew); have DV := J (RO.out.below (Y := X13.drew) (Below.refl _ _).drew); have DQV := J (V13_.out.below (Y := X13.drew) (Below.refl _ _).drew); have HS0 := J DN.out.cells; clear J13_ N13_ RO V13_; refine wp_region_noPanic (zba [0, 1, 2, 3] (fun W' => W'.cell? ⟨w3.heap.size, 0, none⟩ = some (.int .u8 54) ∧ W'.cell? ⟨w3.heap.size, 1, none⟩ = some (.int .u8 0) ∧ W'.cell? ⟨w3.heap.size, 2, none⟩ = some (.int .i64 wd13) ∧ W'.cell? ⟨w3.heap.size, 3, none⟩ = some (.slice A13 l13.length c13)) qb ?_)
 refine zah 0 rfl HS0.out (fun _ h => qj) ?_
 simp only [Act.put, zai]; refine zah 1 rfl HS0.out (fun _ h => qj) ?_
 simp only [Act.put, zai]; refine zaI (i := 2) rfl qb (fun K hK => ?_)
 go_simp
 refine (params_calls g A c lt HTO.out b13 X13.drew D2.out.ps).mono ?_
 rintro e w5 ⟨b14, b14a, b14l, k9, w9_, wd9, u9, l9, rfl, p1, p2, p3⟩
 obtain ⟨kA, kc, rfl, _, _⟩ := Kd.zaL p2.row; have E2 := J (D2.out.ret p1 p3); have EN := J (NI.ret D2.out DN.out p3); have EV := J (VI.ret D2.out DV.out p3); have EQV := J (VI.ret D2.out DQV.out p3); have HKID := J (kid_nv (b := W.heap.size) (okx := (oky okx w3.heap.size)) p2 (Nat.le_trans HBW.out D2.out.fr.size) D2.out.fresh (fun q hq => Kd.N_lt DN.out.nv.row q hq))
 have HS1 := J EN.out.cells; clear p1 p2 p3; refine hK.out _ _ (fun _ => HS1.out) (fun _ => ?_)
 clear hK K; try simp only [Act.put, zai]
 refine zaI (i := 3) rfl qb (fun K hK => ?_)
 go_simp
 refine (zb0 W.heap.size (oky okx w3.heap.size) w5 54 0 wd13 _ l13 (40 * (b13 - a) - 37) _ _ _ _ _ _ EN.out.nv (Nat.le_trans HBW.out E2.out.fr.size) E2.out.fresh HKID.out qG).mono ?_
 rintro e w6 ⟨wd6, u6, l6, rfl, h1, h2, h3⟩
 obtain ⟨A6, c6, rfl, _, _⟩ := Kd.zaL h1.row; have F2 := J (E2.out.ext EN.out (E2.out.addps EN.out h2) (Fr.zaX h2)); have hv_ := EV.out.same (E2.out.var EV.out (Fr.zaX h2) (fun q hq => EN.out.nv.row.1 q hq))
 have FN := J (EN.out.vi.same (E2.out.var EN.out.vi (Fr.zaX h2) (fun q hq => EN.out.nv.row.1 q hq)))
 have HS2 := J ((zaB ((E2.out.var EN.out.vi (Fr.zaX h2) (fun q hq => EN.out.nv.row.1 q hq)).trans EN.out.box)).1)
 have Q2 := J (F2.out.put (k := 54) (w := 0) (wd := wd6) (u := .slice A6 l6.length c6) hv_); have QN := J (NI.put hv_ h1 (zaF EN.out.near E2.out.fr.size h3)); have QV := J ((EQV.out.same (E2.out.var EQV.out (Fr.zaX h2) (fun q hq => EN.out.nv.row.1 q hq))).put (p := w3.heap.size) (k := 54) (w := 0) (wd := wd6) (u := .slice A6 l6.length c6) (fun e_ => qr))
 obtain ⟨z0, z1, z2, z3, hz_⟩ := hv_.at_; have HZ := J hz_; have f0 := zab hz_ 0; have f1 := zab hz_ 1; have f2 := zab hz_ 2; have f3 := zab hz_ 3; obtain ⟨⟨d0, d1, d2, d3⟩, dl⟩ := zaB hz_
 clear h1 h2 h3 hv_ hz_; refine hK.out _ _ (fun _ => HS2.out) (fun _ => ?_)
 clear hK K; try simp only [Act.put, zai]
 refine zaI (i := 4) rfl qb (fun K hK => ?_)
 go_simp
 refine hK.out _ _ (fun h => Bool.noConfusion (show false = true from h)) (fun _ => ?_)
 clear hK K; try simp only [Act.put, zai]
 refine za3 qb (NoPanic.normal ?_) _
 obtain ⟨X14, hX1⟩ : ∃ X1, X1 = putN w6 w3.heap.size 54 0 wd6 (.slice A6 l6.length c6) := ⟨_, rfl⟩; rw [← hX1] at Q2 QN QV; simp only [putN] at hX1; rw [← hX1]; clear hX1 f0 f1 f2 f3 d0 d1 d2 d3 dl; have n_ := J (QN.out.more (N' := 40 * (b14 - a) - 34) q9)
 clear QN; have QN := n_; clear n_; go_upto_region 14 with (fail)
 obtain ⟨x0, x1, x2, x3⟩ := QN.out.cells; go_wp2_with (go_at_call 63; refine (HBL.out b14 q9 W.heap.size (oky okx w3.heap.size) X14 54 0 wd6 _ l6 (40 * (b14 - a) - 34) Q2.out.ps QN.out.nv Q2.out.fr.size (fun q hq => Q2.out.hg q (Q2.out.sub q hq)) Q2.out.fresh q9).mono ?_; rintro e w99 ⟨b9_, b9_a, b9_l, wd99, u99, l99, rfl, h1, h2, h3, h4⟩; obtain ⟨A99, c99, rfl, _, _⟩ := Kd.zaL h2.row; have hv_ := QV.out.same (Q2.out.var QV.out h3 (fun q hq => QN.out.nv.row.1 q hq)); have HEND := J ((Q2.out.ext QN.out h1 h3).done hv_ h2 (zaF QN.out.near Q2.out.fr.size h4)); obtain ⟨z0, z1, z2, z3, hz_⟩ := hv_.at_; have HZ := J hz_; have f0 := zab hz_ 0; have f1 := zab hz_ 1; have f2 := zab hz_ 2; have f3 := zab hz_ 3; obtain ⟨⟨d0, d1, d2, d3⟩, dl⟩ := zaB hz_; clear h1 h2 h3 h4 hv_ hz_ x0 x1 x2 x3)
 refine bodyPost_ret (zaM (r := .cell 2 24) rfl (.cell (W.heap.size) 24 _ (0, 0) _ rfl (za7 HZ.out) Try.underlying24 rfl qb .nil)) rfl ?_
 refine ⟨b9_, q9, b9_l, ?_⟩
 obtain ⟨wd8, u8, l8, e1, e2, e3, e4, e5⟩ := HEND.out; exact ⟨_, _, wd8, u8, l8, e1, e2, e3.more q9, e4⟩
theorem st_if (g : Nat) (A : Option Addr) (c : Nat) (lt : List S40) (htk : TkOk lt) (a : Nat) (hK : zaC.f (cu lt a) = some 56) (hexp : ∀ a1, a < a1 → CExpr g A c lt a1) (hbl : ∀ a1, a < a1 → CBlock g A c lt a1) (hst : ∀ a1, a < a1 → CStatement g A c lt a1) (W : World) (hP : PS W g A c lt a) :
  Calls Try.prog 46 #[.pointer (some ⟨g, 0, none⟩)] W fun e W' => ∃ a', a < a' ∧ a' ≤ lt.length ∧ Ret g A c lt W a' (40 * (a' - a) - 10) e W' := by
 have HTO := J htk; have HLT := J (cu_lt (stmt_ne hK q9))
 have HLEN := J hP.len; have HLE := J (And.intro hP.le (hd_ge lt a)); have HEXP := J hexp; have HBL := J hbl; have HST := J hst; clear htk hexp hbl hst; have hu := Try.underlying24; go_enter Try.func46, Try.ntmps46
 go_upto_region 1 with (fail)
 obtain ⟨X, hX⟩ : ∃ X, X = W.alloc (nodeO 0 0 0 (.slice none 0 0)) := ⟨_, rfl⟩; obtain ⟨h2, hv⟩ := S2.start1 hP hX; change Code.wp Try.prog _ _ _ (W.alloc (nodeO 0 0 0 (.slice none 0 0)))
 rw [← hX]; generalize oky (fun q => W.heap.size ≤ q) W.heap.size = okx at h2 hv
 have I2 := J h2; have IV := J hv; clear h2 hv hX hP; have HKC := J (za5 g A c lt a X I2.out.ps); obtain ⟨q, hq⟩ : ∃ q, q = cu lt a := ⟨_, rfl⟩; rw [← hq] at HKC hK; have HQ := J hq; have HRR := J hK; clear hq hK; go_upto_region 2 with (first | (go_at_call 21; refine HKC.out.mono ?_; rintro e w2 ⟨rfl, hb2⟩; have H2 := J (I2.out.below hb2); have HV := J (IV.out.below hb2); clear hb2 I2 IV HKC) | (go_at_call 43; refine (zaC.calls _ _ _ HRR.out).mono ?_; rintro e w3 ⟨rfl, hd2⟩; have hb2 := hd2.below; clear hd2; have G2 := J (H2.out.below hb2); have GV := J (HV.out.below hb2); clear hb2 H2 HV))
 have J2 := J (G2.out.newv (o := nodeO 56 0 0 (.slice none 0 0))); have JN := J (NI.new_ (b := W.heap.size) (okx := okx) (W := W) (r := none) (X := w3) (N := 1) G2.out.fr.size (NV.leaf (k := 56) (w := 0) (wd := 0) q9 q9 q9 (Nat.le_refl _)) (.inl rfl))
 have JV := J (GV.out.newv (o := nodeO 56 0 0 (.slice none 0 0))); have HNE := J GV.out.zav; obtain ⟨X1, hX1⟩ : ∃ X1, X1 = w3.alloc (nodeO 56 0 0 (.slice none 0 0)) := ⟨_, rfl⟩; rw [← hX1] at J2 JN JV; change Code.wp Try.prog _ _ _ (w3.alloc (nodeO 56 0 0 (.slice none 0 0)))
 rw [← hX1]; clear hX1 G2 GV; obtain ⟨hla, hlh⟩ := HLE.out; have hlt_ := HLT.out; have hln_ := HLEN.out; obtain ⟨x0, x1, x2, x3⟩ := JN.out.cells; go_upto_region 17 with (go_at_call 47; refine (zbq g A c lt HTO.out a W.heap.size (oky okx w3.heap.size) X1 56 0 0 _ [] 1 J2.out.ps JN.out.nv J2.out.fr.size (fun q hq => J2.out.hg q (J2.out.sub q hq)) J2.out.fresh hlt_ q9).mono ?_; rintro e w11 ⟨wd11, u11, l11, rfl, h1, h2, h3, h4⟩; obtain ⟨A11, c11, rfl, _, _⟩ := Kd.zaL h2.row; have hp_ := JN.out.vi.same (J2.out.var JN.out.vi h3 (fun q hq => JN.out.nv.row.1 q hq)); have J11_ := J ((J2.out.ext JN.out h1 h3).put (k := 56) (w := 0) (wd := wd11) (u := .slice A11 l11.length c11) hp_); have N11_ := J (NI.put hp_ h2 (zaF JN.out.near J2.out.fr.size h4)); have hv_ := JV.out.same (J2.out.var JV.out h3 (fun q hq => JN.out.nv.row.1 q hq)); have V11_ := J (hv_.put (p := w3.heap.size) (k := 56) (w := 0) (wd := wd11) (u := .slice A11 l11.length c11) (fun e_ => qr)); clear hv_; obtain ⟨z0, z1, z2, z3, hz_⟩ := hp_.at_; have f0 := zab hz_ 0; have f1 := zab hz_ 1; have f2 := zab hz_ 2; have f3 := zab hz_ 3; obtain ⟨⟨d0, d1, d2, d3⟩, dl⟩ := zaB hz_; clear h1 h2 h3 h4 hp_ hz_ x0 x1 x2 x3 J2 JN JV)
 obtain ⟨X11, hX1⟩ : ∃ X1, X1 = putN w11 w3.heap.size 56 0 wd11 (.slice A11 l11.length c11) := ⟨_, rfl⟩; rw [← hX1] at J11_ N11_ V11_; simp only [putN] at hX1; rw [← hX1]; clear hX1 f0 f1 f2 f3 d0 d1 d2 d3 dl; obtain ⟨b11, hb_⟩ : ∃ b_, b_ = hd lt a + 1 := ⟨_, rfl⟩; have hh_ := hd_ge lt a; have b11a : a < b11 := by omega
 have b11l : b11 ≤ lt.length := by omega
 rw [← hb_] at J11_; have n_ := J (N11_.out.more (N' := 40 * (b11 - a) - 38) q9)
 clear N11_ hb_ hh_; have N11_ := n_; clear n_; obtain ⟨x0, x1, x2, x3⟩ := N11_.out.cells; go_upto_region 18 with (go_at_call 61; refine (HEXP.out b11 q9 W.heap.size (oky okx w3.heap.size) X11 56 0 wd11 _ l11 (40 * (b11 - a) - 38) J11_.out.ps N11_.out.nv J11_.out.fr.size (fun q hq => J11_.out.hg q (J11_.out.sub q hq)) J11_.out.fresh q9).mono ?_; rintro e w12 ⟨b12, b12a, b12l, wd12, u12, l12, rfl, h1, h2, h3, h4⟩; obtain ⟨A12, c12, rfl, _, _⟩ := Kd.zaL h2.row; have hp_ := N11_.out.vi.same (J11_.out.var N11_.out.vi h3 (fun q hq => N11_.out.nv.row.1 q hq)); have J12_ := J ((J11_.out.ext N11_.out h1 h3).put (k := 56) (w := 0) (wd := wd12) (u := .slice A12 l12.length c12) hp_); have N12_ := J (NI.put hp_ h2 (zaF N11_.out.near J11_.out.fr.size h4)); have hv_ := V11_.out.same (J11_.out.var V11_.out h3 (fun q hq => N11_.out.nv.row.1 q hq)); have V12_ := J (hv_.put (p := w3.heap.size) (k := 56) (w := 0) (wd := wd12) (u := .slice A12 l12.length c12) (fun e_ => qr)); clear hv_; obtain ⟨z0, z1, z2, z3, hz_⟩ := hp_.at_; have f0 := zab hz_ 0; have f1 := zab hz_ 1; have f2 := zab hz_ 2; have f3 := zab hz_ 3; obtain ⟨⟨d0, d1, d2, d3⟩, dl⟩ := zaB hz_; clear h1 h2 h3 h4 hp_ hz_ x0 x1 x2 x3 J11_ N11_ V11_)
 obtain ⟨X12, hX1⟩ : ∃ X1, X1 = putN w12 w3.heap.size 56 0 wd12 (.slice A12 l12.length c12) := ⟨_, rfl⟩; rw [← hX1] at J12_ N12_ V12_; simp only [putN] at hX1; rw [← hX1]; clear hX1 f0 f1 f2 f3 d0 d1 d2 d3 dl; have n_ := J (N12_.out.more (N' := 40 * (b12 - a) - 37) q9)
 clear N12_; have N12_ := n_; clear n_; obtain ⟨x0, x1, x2, x3⟩ := N12_.out.cells; go_upto_region 19 with (go_at_call 63; refine (HBL.out b12 q9 W.heap.size (oky okx w3.heap.size) X12 56 0 wd12 _ l12 (40 * (b12 - a) - 37) J12_.out.ps N12_.out.nv J12_.out.fr.size (fun q hq => J12_.out.hg q (J12_.out.sub q hq)) J12_.out.fresh q9).mono ?_; rintro e w13 ⟨b13, b13a, b13l, wd13, u13, l13, rfl, h1, h2, h3, h4⟩; obtain ⟨A13, c13, rfl, _, _⟩ := Kd.zaL h2.row; have hp_ := N12_.out.vi.same (J12_.out.var N12_.out.vi h3 (fun q hq => N12_.out.nv.row.1 q hq)); have J13_ := J ((J12_.out.ext N12_.out h1 h3).put (k := 56) (w := 0) (wd := wd13) (u := .slice A13 l13.length c13) hp_); have N13_ := J (NI.put hp_ h2 (zaF N12_.out.near J12_.out.fr.size h4)); have hv_ := V12_.out.same (J12_.out.var V12_.out h3 (fun q hq => N12_.out.nv.row.1 q hq)); have V13_ := J (hv_.put (p := w3.heap.size) (k := 56) (w := 0) (wd := wd13) (u := .slice A13 l13.length c13) (fun e_ => qr)); clear hv_; obtain ⟨z0, z1, z2, z3, hz_⟩ := hp_.at_; have f0 := zab hz_ 0; have f1 := zab hz_ 1; have f2 := zab hz_ 2; have f3 := zab hz_ 3; obtain ⟨⟨d0, d1, d2, d3⟩, dl⟩ := zaB hz_; clear h1 h2 h3 h4 hp_ hz_ x0 x1 x2 x3 J12_ N12_ V12_)
 obtain ⟨X13, hX1⟩ : ∃ X1, X1 = putN w13 w3.heap.size 56 0 wd13 (.slice A13 l13.length c13) := ⟨_, rfl⟩; rw [← hX1] at J13_ N13_ V13_; simp only [putN] at hX1; rw [← hX1]; clear hX1 f0 f1 f2 f3 d0 d1 d2 d3 dl; have n_ := J (N13_.out.more (N' := 40 * (b13 - a) - 36) q9)
 clear N13_; have N13_ := n_; clear n_; have HKC_ := J (za5 g A c lt b13 X13 J13_.out.ps); obtain ⟨q_, hq_⟩ : ∃ q_, q_ = cu lt b13 := ⟨_, rfl⟩; rw [← hq_] at HKC_; have HQ_ := J hq_; clear hq_; by_cases hq13 : q_ = 13
 case neg =>
  have d13 : (q_ != 13) = true := by simp [hq13]
  clear hq13; go_upto_region 20 with (go_at_call 21; refine HKC_.out.mono ?_; rintro e w14 ⟨rfl, hb2⟩; have J14_ := J (J13_.out.below hb2); have N14_ := J (N13_.out.below hb2); have V14_ := J (V13_.out.below hb2); clear hb2 J13_ N13_ V13_ HKC_)
  obtain ⟨x0, x1, x2, x3⟩ := N14_.out.cells; have HEND := J (J14_.out.done V14_.out N14_.out.nv N14_.out.near); obtain ⟨z0, z1, z2, z3, hz_⟩ := V14_.out.at_; have HZ := J hz_; have f0 := zab hz_ 0; have f1 := zab hz_ 1; have f2 := zab hz_ 2; have f3 := zab hz_ 3; obtain ⟨⟨d0, d1, d2, d3⟩, dl⟩ := zaB hz_
  clear hz_; go_wp2
  refine bodyPost_ret (zaM (r := .cell 2 24) rfl (.cell (W.heap.size) 24 _ (0, 0) _ rfl (za7 HZ.out) Try.underlying24 rfl qb .nil)) rfl ?_
  refine ⟨b13, q9, b13l, ?_⟩
  obtain ⟨wd8, u8, l8, e1, e2, e3, e4, e5⟩ := HEND.out; exact ⟨_, _, wd8, u8, l8, e1, e2, e3.more q9, e4⟩
 case pos =>
  have d13 : (q_ != 13) = false := by simp [hq13]
  have hlt2_ := cu_lt (l := lt) (by rw [← HQ_.out, hq13]; omega)
  clear hq13; go_upto_region 21 with (go_at_call 21; refine HKC_.out.mono ?_; rintro e w14 ⟨rfl, hb2⟩; have J14_ := J (J13_.out.below hb2); have N14_ := J (N13_.out.below hb2); have V14_ := J (V13_.out.below hb2); clear hb2 J13_ N13_ V13_ HKC_)
  obtain ⟨x0, x1, x2, x3⟩ := N14_.out.cells; go_upto_region 22 with (go_at_call 47; refine (zbq g A c lt HTO.out b13 W.heap.size (oky okx w3.heap.size) w14 56 0 wd13 _ l13 (40 * (b13 - a) - 36) J14_.out.ps N14_.out.nv J14_.out.fr.size (fun q hq => J14_.out.hg q (J14_.out.sub q hq)) J14_.out.fresh hlt2_ q9).mono ?_; rintro e w15 ⟨wd15, u15, l15, rfl, h1, h2, h3, h4⟩; obtain ⟨A15, c15, rfl, _, _⟩ := Kd.zaL h2.row; have hp_ := N14_.out.vi.same (J14_.out.var N14_.out.vi h3 (fun q hq => N14_.out.nv.row.1 q hq)); have J15_ := J ((J14_.out.ext N14_.out h1 h3).put (k := 56) (w := 0) (wd := wd15) (u := .slice A15 l15.length c15) hp_); have N15_ := J (NI.put hp_ h2 (zaF N14_.out.near J14_.out.fr.size h4)); have hv_ := V14_.out.same (J14_.out.var V14_.out h3 (fun q hq => N14_.out.nv.row.1 q hq)); have V15_ := J (hv_.put (p := w3.heap.size) (k := 56) (w := 0) (wd := wd15) (u := .slice A15 l15.length c15) (fun e_ => qr)); clear hv_; obtain ⟨z0, z1, z2, z3, hz_⟩ := hp_.at_; have f0 := zab hz_ 0; have f1 := zab hz_ 1; have f2 := zab hz_ 2; have f3 := zab hz_ 3; obtain ⟨⟨d0, d1, d2, d3⟩, dl⟩ := zaB hz_; clear h1 h2 h3 h4 hp_ hz_ x0 x1 x2 x3 J14_ N14_ V14_)
  obtain ⟨X15, hX1⟩ : ∃ X1, X1 = putN w15 w3.heap.size 56 0 wd15 (.slice A15 l15.length c15) := ⟨_, rfl⟩; rw [← hX1] at J15_ N15_ V15_; simp only [putN] at hX1; rw [← hX1]; clear hX1 f0 f1 f2 f3 d0 d1 d2 d3 dl; obtain ⟨b15, hb_⟩ : ∃ b_, b_ = hd lt b13 + 1 := ⟨_, rfl⟩; have hh_ := hd_ge lt b13; have b15a : b13 < b15 := by omega
  have b15l : b15 ≤ lt.length := by omega
  rw [← hb_] at J15_; have n_ := J (N15_.out.more (N' := 40 * (b15 - a) - 36) q9)
  clear N15_ hb_ hh_; have N15_ := n_; clear n_; clear HQ_ hlt2_; have HKC_ := J (za5 g A c lt b15 X15 J15_.out.ps); obtain ⟨q_, hq_⟩ : ∃ q_, q_ = cu lt b15 := ⟨_, rfl⟩; rw [← hq_] at HKC_; have HQ_ := J hq_; clear hq_; by_cases hq12 : q_ = 12
  case neg =>
   have d12 : (q_ != 12) = true := by simp [hq12]
   clear hq12; go_upto_region 23 with (go_at_call 21; refine HKC_.out.mono ?_; rintro e w16 ⟨rfl, hb2⟩; have J16_ := J (J15_.out.below hb2); have N16_ := J (N15_.out.below hb2); have V16_ := J (V15_.out.below hb2); clear hb2 J15_ N15_ V15_ HKC_)
   obtain ⟨x0, x1, x2, x3⟩ := N16_.out.cells; go_wp2_with (go_at_call 63; refine (HBL.out b15 q9 W.heap.size (oky okx w3.heap.size) w16 56 0 wd15 _ l15 (40 * (b15 - a) - 36) J16_.out.ps N16_.out.nv J16_.out.fr.size (fun q hq => J16_.out.hg q (J16_.out.sub q hq)) J16_.out.fresh q9).mono ?_; rintro e w99 ⟨b9_, b9_a, b9_l, wd99, u99, l99, rfl, h1, h2, h3, h4⟩; obtain ⟨A99, c99, rfl, _, _⟩ := Kd.zaL h2.row; have hv_ := V16_.out.same (J16_.out.var V16_.out h3 (fun q hq => N16_.out.nv.row.1 q hq)); have HEND := J ((J16_.out.ext N16_.out h1 h3).done hv_ h2 (zaF N16_.out.near J16_.out.fr.size h4)); obtain ⟨z0, z1, z2, z3, hz_⟩ := hv_.at_; have HZ := J hz_; have f0 := zab hz_ 0; have f1 := zab hz_ 1; have f2 := zab hz_ 2; have f3 := zab hz_ 3; obtain ⟨⟨d0, d1, d2, d3⟩, dl⟩ := zaB hz_; clear h1 h2 h3 h4 hv_ hz_ x0 x1 x2 x3)
   refine bodyPost_ret (zaM (r := .cell 2 24) rfl (.cell (W.heap.size) 24 _ (0, 0) _ rfl (za7 HZ.out) Try.underlying24 rfl qb .nil)) rfl ?_
   refine ⟨b9_, q9, b9_l, ?_⟩
   obtain ⟨wd8, u8, l8, e1, e2, e3, e4, e5⟩ := HEND.out; exact ⟨_, _, wd8, u8, l8, e1, e2, e3.more q9, e4⟩
  case pos =>
   have d12 : (q_ != 12) = false := by simp [hq12]
   have hlt3_ := cu_lt (l := lt) (by rw [← HQ_.out, hq12]; omega)
   have HS0_ := J (show ∃ r, zaC.f (cu lt (hd lt b15)) = some r ∧ r ≠ 0 from ⟨56, by rw [cu_hd, ← HQ_.out, hq12]; rfl, q9⟩)
   have HHD := J (hd_hd lt b15); clear hq12; go_upto_region 24 with (go_at_call 21; refine HKC_.out.mono ?_; rintro e w16 ⟨rfl, hb2⟩; have J16_ := J (J15_.out.below hb2); have N16_ := J (N15_.out.below hb2); have V16_ := J (V15_.out.below hb2); clear hb2 J15_ N15_ V15_ HKC_)
   obtain ⟨x0, x1, x2, x3⟩ := N16_.out.cells; go_upto_region 25 with (go_at_call 23; refine (zbU g A c lt HTO.out b15 W.heap.size (oky okx w3.heap.size) w16 56 0 wd15 _ l15 (40 * (b15 - a) - 36) J16_.out.ps N16_.out.nv J16_.out.fr.size (fun q hq => J16_.out.hg q (J16_.out.sub q hq)) J16_.out.fresh (by have := hd_le b15l; omega)).mono ?_; rintro e w17 ⟨wd17, u17, l17, rfl, h1, h2, h3, h4⟩; obtain ⟨A17, c17, rfl, _, _⟩ := Kd.zaL h2.row; have hp_ := N16_.out.vi.same (J16_.out.var N16_.out.vi h3 (fun q hq => N16_.out.nv.row.1 q hq)); have J17_ := J ((J16_.out.ext N16_.out h1 h3).put (k := 56) (w := 0) (wd := wd17) (u := .slice A17 l17.length c17) hp_); have N17_ := J (NI.put hp_ h2 (zaF N16_.out.near J16_.out.fr.size h4)); have hv_ := V16_.out.same (J16_.out.var V16_.out h3 (fun q hq => N16_.out.nv.row.1 q hq)); have V17_ := J (hv_.put (p := w3.heap.size) (k := 56) (w := 0) (wd := wd17) (u := .slice A17 l17.length c17) (fun e_ => qr)); clear hv_; obtain ⟨z0, z1, z2, z3, hz_⟩ := hp_.at_; have f0 := zab hz_ 0; have f1 := zab hz_ 1; have f2 := zab hz_ 2; have f3 := zab hz_ 3; obtain ⟨⟨d0, d1, d2, d3⟩, dl⟩ := zaB hz_; clear h1 h2 h3 h4 hp_ hz_ x0 x1 x2 x3 J16_ N16_ V16_)
   obtain ⟨X17, hX1⟩ : ∃ X1, X1 = putN w17 w3.heap.size 56 0 wd17 (.slice A17 l17.length c17) := ⟨_, rfl⟩; rw [← hX1] at J17_ N17_ V17_; simp only [putN] at hX1; rw [← hX1]; clear hX1 f0 f1 f2 f3 d0 d1 d2 d3 dl; obtain ⟨b17, hb_⟩ : ∃ b_, b_ = hd lt b15 := ⟨_, rfl⟩; have hh_ := hd_ge lt b15; have b17a : b15 ≤ b17 := by omega
   have b17l : b17 ≤ lt.length := by omega
   rw [← hb_] at HS0_ HHD hlt3_ J17_; have n_ := J (N17_.out.more (N' := 40 * (b17 - a) - 36) q9)
   clear N17_ hb_ hh_; have N17_ := n_; clear n_; obtain ⟨x0, x1, x2, x3⟩ := N17_.out.cells; go_upto_region 26 with (go_at_call 44; refine (taken_calls g A c lt b17 W.heap.size (oky okx w3.heap.size) X17 56 0 wd17 _ l17 (40 * (b17 - a) - 36) 59 J17_.out.ps N17_.out.nv (fun q hq => J17_.out.hg q (J17_.out.sub q hq))).mono ?_; rintro e w30 ⟨rfl, h1, h2, h3⟩; have K2 := J (J17_.out.ext N17_.out h1 h3); have KN := J (N17_.out.kept (J17_.out.var N17_.out.vi h3 (fun q hq => N17_.out.nv.row.1 q hq)) h2); have KV := J (V17_.out.same (J17_.out.var V17_.out h3 (fun q hq => N17_.out.nv.row.1 q hq))); clear h1 h2 h3 x0 x1 x2 x3 J17_ N17_ V17_)
   have n_ := J (K2.out.newv (o := nodeO 56 0 wd17 (.slice A17 l17.length c17))); clear K2; have K2 := n_; clear n_; have n_ := J (KN.out.newv (o := nodeO 56 0 wd17 (.slice A17 l17.length c17))); clear KN; have KN := n_; clear n_; have n_ := J (KV.out.newv (o := nodeO 56 0 wd17 (.slice A17 l17.length c17))); clear KV; have KV := n_; clear n_; obtain ⟨Y, hX1⟩ : ∃ X1, X1 = w30.alloc (nodeO 56 0 wd17 (.slice A17 l17.length c17)) := ⟨_, rfl⟩; rw [← hX1] at K2 KN KV; change Code.wp Try.prog _ _ _ (w30.alloc (nodeO 56 0 wd17 (.slice A17 l17.length c17)))
   rw [← hX1]; clear hX1; obtain ⟨x0, x1, x2, x3⟩ := KN.out.cells; go_upto_region 28 with (fail)
   clear x0 x1 x2 x3; have HSZ := J (show 40 * (b17 - a) - 36 + (40 * (lt.length - b17)) ≤ 899990 by omega)
   have HBW := J (Nat.le_refl W.heap.size); have D2 := J (K2.out.below (Y := Y.drew) (Below.refl _ _).drew); have DN := J (KN.out.below (Y := Y.drew) (Below.refl _ _).drew); have DV := J (KV.out.below (Y := Y.drew) (Below.refl _ _).drew); have HS0 := J DN.out.cells; clear K2 KN KV; refine wp_region_noPanic (zba [0, 1, 2, 3] (fun W' => W'.cell? ⟨w3.heap.size, 0, none⟩ = some (.int .u8 56) ∧ W'.cell? ⟨w3.heap.size, 1, none⟩ = some (.int .u8 0) ∧ W'.cell? ⟨w3.heap.size, 2, none⟩ = some (.int .i64 wd17) ∧ W'.cell? ⟨w3.heap.size, 3, none⟩ = some (.slice A17 l17.length c17)) qb ?_)
   refine zah 0 rfl HS0.out (fun _ h => qj) ?_
   simp only [Act.put, zai]; refine zah 1 rfl HS0.out (fun _ h => qj) ?_
   simp only [Act.put, zai]; refine zaI (i := 2) rfl qb (fun K hK => ?_)
   go_simp
   refine (HST.out b17 q9 Y.drew D2.out.ps HS0_.out).mono ?_
   rintro e w5 ⟨b9_, b9_a, b9_l, k9, w9_, wd9, u9, l9, rfl, p1, p2, p3⟩
   obtain ⟨kA, kc, rfl, _, _⟩ := Kd.zaL p2.row; have E2 := J (D2.out.ret p1 p3); have EN := J (NI.ret D2.out DN.out p3); have EV := J (VI.ret D2.out DV.out p3); have HKID := J (kid_nv (b := W.heap.size) (okx := (oky (oky okx w3.heap.size) w30.heap.size)) p2 (Nat.le_trans HBW.out D2.out.fr.size) D2.out.fresh (fun q hq => Kd.N_lt DN.out.nv.row q hq))
   have HS1 := J EN.out.cells; clear p1 p2 p3; refine hK.out _ _ (fun _ => HS1.out) (fun _ => ?_)
   clear hK K; try simp only [Act.put, zai]
   refine zaI (i := 3) rfl qb (fun K hK => ?_)
   go_simp
   refine (zb0 W.heap.size (oky (oky okx w3.heap.size) w30.heap.size) w5 56 0 wd17 _ l17 (40 * (b17 - a) - 36) _ _ _ _ _ _ EN.out.nv (Nat.le_trans HBW.out E2.out.fr.size) E2.out.fresh HKID.out qG).mono ?_
   rintro e w6 ⟨wd6, u6, l6, rfl, h1, h2, h3⟩
   obtain ⟨A6, c6, rfl, _, _⟩ := Kd.zaL h1.row; have F2 := J (E2.out.ext EN.out (E2.out.addps EN.out h2) (Fr.zaX h2)); have hv_ := EV.out.same (E2.out.var EV.out (Fr.zaX h2) (fun q hq => EN.out.nv.row.1 q hq))
   have FN := J (EN.out.vi.same (E2.out.var EN.out.vi (Fr.zaX h2) (fun q hq => EN.out.nv.row.1 q hq)))
   have HS2 := J ((zaB ((E2.out.var EN.out.vi (Fr.zaX h2) (fun q hq => EN.out.nv.row.1 q hq)).trans EN.out.box)).1)
   have HEND := J (F2.out.done hv_ h1 (zaF EN.out.near E2.out.fr.size h3)); obtain ⟨z0, z1, z2, z3, hz_⟩ := hv_.at_; have HZ := J hz_; have f0 := zab hz_ 0; have f1 := zab hz_ 1; have f2 := zab hz_ 2; have f3 := zab hz_ 3; obtain ⟨⟨d0, d1, d2, d3⟩, dl⟩ := zaB hz_
   clear h1 h2 h3 hv_ hz_; refine hK.out _ _ (fun _ => HS2.out) (fun _ => ?_)
   clear hK K; try simp only [Act.put, zai]
   refine zaI (i := 4) rfl qb (fun K hK => ?_)
   go_simp
   refine hK.out _ _ (fun h => Bool.noConfusion (show false = true from h)) (fun _ => ?_)
   clear hK K; try simp only [Act.put, zai]
   refine za3 qb (NoPanic.normal ?_) _
   clear d0 d1 d2 d3 dl f0 f1 f2 f3; go_wp2
   refine bodyPost_ret (zaM (r := .cell 2 24) rfl (.cell (W.heap.size) 24 _ (0, 0) _ rfl (za7 HZ.out) Try.underlying24 rfl qb .nil)) rfl ?_
   refine ⟨b9_, q9, b9_l, ?_⟩
   obtain ⟨wd8, u8, l8, e1, e2, e3, e4, e5⟩ := HEND.out; exact ⟨_, _, wd8, u8, l8, e1, e2, e3.more q9, e4⟩
theorem st_while (g : Nat) (A : Option Addr) (c : Nat) (lt : List S40) (htk : TkOk lt) (a : Nat) (hK : zaC.f (cu lt a) = some 57) (hexp : ∀ a1, a < a1 → CExpr g A c lt a1) (hbl : ∀ a1, a < a1 → CBlock g A c lt a1) (W : World) (hP : PS W g A c lt a) :
  Calls Try.prog 46 #[.pointer (some ⟨g, 0, none⟩)] W fun e W' => ∃ a', a < a' ∧ a' ≤ lt.length ∧ Ret g A c lt W a' (40 * (a' - a) - 10) e W' := by
 have HTO := J htk; have HLT := J (cu_lt (stmt_ne hK q9))
 have HLEN := J hP.len; have HLE := J (And.intro hP.le (hd_ge lt a)); have HEXP := J hexp; have HBL := J hbl; clear htk hexp hbl; have hu := Try.underlying24; go_enter Try.func46, Try.ntmps46
 go_upto_region 1 with (fail)
 obtain ⟨X, hX⟩ : ∃ X, X = W.alloc (nodeO 0 0 0 (.slice none 0 0)) := ⟨_, rfl⟩; obtain ⟨h2, hv⟩ := S2.start1 hP hX; change Code.wp Try.prog _ _ _ (W.alloc (nodeO 0 0 0 (.slice none 0 0)))
 rw [← hX]; generalize oky (fun q => W.heap.size ≤ q) W.heap.size = okx at h2 hv
 have I2 := J h2; have IV := J hv; clear h2 hv hX hP; have HKC := J (za5 g A c lt a X I2.out.ps); obtain ⟨q, hq⟩ : ∃ q, q = cu lt a := ⟨_, rfl⟩; rw [← hq] at HKC hK; have HQ := J hq; have HRR := J hK; clear hq hK; go_upto_region 2 with (first | (go_at_call 21; refine HKC.out.mono ?_; rintro e w2 ⟨rfl, hb2⟩; have H2 := J (I2.out.below hb2); have HV := J (IV.out.below hb2); clear hb2 I2 IV HKC) | (go_at_call 43; refine (zaC.calls _ _ _ HRR.out).mono ?_; rintro e w3 ⟨rfl, hd2⟩; have hb2 := hd2.below; clear hd2; have G2 := J (H2.out.below hb2); have GV := J (HV.out.below hb2); clear hb2 H2 HV))
 have J2 := J (G2.out.newv (o := nodeO 57 0 0 (.slice none 0 0))); have JN := J (NI.new_ (b := W.heap.size) (okx := okx) (W := W) (r := none) (X := w3) (N := 1) G2.out.fr.size (NV.leaf (k := 57) (w := 0) (wd := 0) q9 q9 q9 (Nat.le_refl _)) (.inl rfl))
 have JV := J (GV.out.newv (o := nodeO 57 0 0 (.slice none 0 0))); have HNE := J GV.out.zav; obtain ⟨X1, hX1⟩ : ∃ X1, X1 = w3.alloc (nodeO 57 0 0 (.slice none 0 0)) := ⟨_, rfl⟩; rw [← hX1] at J2 JN JV; change Code.wp Try.prog _ _ _ (w3.alloc (nodeO 57 0 0 (.slice none 0 0)))
 rw [← hX1]; clear hX1 G2 GV; obtain ⟨hla, hlh⟩ := HLE.out; have hlt_ := HLT.out; have hln_ := HLEN.out; obtain ⟨x0, x1, x2, x3⟩ := JN.out.cells; go_upto_region 31 with (go_at_call 47; refine (zbq g A c lt HTO.out a W.heap.size (oky okx w3.heap.size) X1 57 0 0 _ [] 1 J2.out.ps JN.out.nv J2.out.fr.size (fun q hq => J2.out.hg q (J2.out.sub q hq)) J2.out.fresh hlt_ q9).mono ?_; rintro e w11 ⟨wd11, u11, l11, rfl, h1, h2, h3, h4⟩; obtain ⟨A11, c11, rfl, _, _⟩ := Kd.zaL h2.row; have hp_ := JN.out.vi.same (J2.out.var JN.out.vi h3 (fun q hq => JN.out.nv.row.1 q hq)); have J11_ := J ((J2.out.ext JN.out h1 h3).put (k := 57) (w := 0) (wd := wd11) (u := .slice A11 l11.length c11) hp_); have N11_ := J (NI.put hp_ h2 (zaF JN.out.near J2.out.fr.size h4)); have hv_ := JV.out.same (J2.out.var JV.out h3 (fun q hq => JN.out.nv.row.1 q hq)); have V11_ := J (hv_.put (p := w3.heap.size) (k := 57) (w := 0) (wd := wd11) (u := .slice A11 l11.length c11) (fun e_ => qr)); clear hv_; obtain ⟨z0, z1, z2, z3, hz_⟩ := hp_.at_; have f0 := zab hz_ 0; have f1 := zab hz_ 1; have f2 := zab hz_ 2; have f3 := zab hz_ 3; obtain ⟨⟨d0, d1, d2, d3⟩, dl⟩ := zaB hz_; clear h1 h2 h3 h4 hp_ hz_ x0 x1 x2 x3 J2 JN JV)
 obtain ⟨X11, hX1⟩ : ∃ X1, X1 = putN w11 w3.heap.size 57 0 wd11 (.slice A11 l11.length c11) := ⟨_, rfl⟩; rw [← hX1] at J11_ N11_ V11_; simp only [putN] at hX1; rw [← hX1]; clear hX1 f0 f1 f2 f3 d0 d1 d2 d3 dl; obtain ⟨b11, hb_⟩ : ∃ b_, b_ = hd lt a + 1 := ⟨_, rfl⟩; have hh_ := hd_ge lt a; have b11a : a < b11 := by omega
 have b11l : b11 ≤ lt.length := by omega
 rw [← hb_] at J11_; have n_ := J (N11_.out.more (N' := 40 * (b11 - a) - 38) q9)
 clear N11_ hb_ hh_; have N11_ := n_; clear n_; obtain ⟨x0, x1, x2, x3⟩ := N11_.out.cells; go_upto_region 32 with (go_at_call 61; refine (HEXP.out b11 q9 W.heap.size (oky okx w3.heap.size) X11 57 0 wd11 _ l11 (40 * (b11 - a) - 38) J11_.out.ps N11_.out.nv J11_.out.fr.size (fun q hq => J11_.out.hg q (J11_.out.sub q hq)) J11_.out.fresh q9).mono ?_; rintro e w12 ⟨b12, b12a, b12l, wd12, u12, l12, rfl, h1, h2, h3, h4⟩; obtain ⟨A12, c12, rfl, _, _⟩ := Kd.zaL h2.row; have hp_ := N11_.out.vi.same (J11_.out.var N11_.out.vi h3 (fun q hq => N11_.out.nv.row.1 q hq)); have J12_ := J ((J11_.out.ext N11_.out h1 h3).put (k := 57) (w := 0) (wd := wd12) (u := .slice A12 l12.length c12) hp_); have N12_ := J (NI.put hp_ h2 (zaF N11_.out.near J11_.out.fr.size h4)); have hv_ := V11_.out.same (J11_.out.var V11_.out h3 (fun q hq => N11_.out.nv.row.1 q hq)); have V12_ := J (hv_.put (p := w3.heap.size) (k := 57) (w := 0) (wd := wd12) (u := .slice A12 l12.length c12) (fun e_ => qr)); clear hv_; obtain ⟨z0, z1, z2, z3, hz_⟩ := hp_.at_; have f0 := zab hz_ 0; have f1 := zab hz_ 1; have f2 := zab hz_ 2; have f3 := zab hz_ 3; obtain ⟨⟨d0, d1, d2, d3⟩, dl⟩ := zaB hz_; clear h1 h2 h3 h4 hp_ hz_ x0 x1 x2 x3 J11_ N11_ V11_)
 obtain ⟨X12, hX1⟩ : ∃ X1, X1 = putN w12 w3.heap.size 57 0 wd12 (.slice A12 l12.length c12) := ⟨_, rfl⟩; rw [← hX1] at J12_ N12_ V12_; simp only [putN] at hX1; rw [← hX1]; clear hX1 f0 f1 f2 f3 d0 d1 d2 d3 dl; have n_ := J (N12_.out.more (N' := 40 * (b12 - a) - 37) q9)
 clear N12_; have N12_ := n_; clear n_; obtain ⟨x0, x1, x2, x3⟩ := N12_.out.cells; go_wp2_with (go_at_call 63; refine (HBL.out b12 q9 W.heap.size (oky okx w3.heap.size) X12 57 0 wd12 _ l12 (40 * (b12 - a) - 37) J12_.out.ps N12_.out.nv J12_.out.fr.size (fun q hq => J12_.out.hg q (J12_.out.sub q hq)) J12_.out.fresh q9).mono ?_; rintro e w99 ⟨b9_, b9_a, b9_l, wd99, u99, l99, rfl, h1, h2, h3, h4⟩; obtain ⟨A99, c99, rfl, _, _⟩ := Kd.zaL h2.row; have hv_ := V12_.out.same (J12_.out.var V12_.out h3 (fun q hq => N12_.out.nv.row.1 q hq)); have HEND := J ((J12_.out.ext N12_.out h1 h3).done hv_ h2 (zaF N12_.out.near J12_.out.fr.size h4)); obtain ⟨z0, z1, z2, z3, hz_⟩ := hv_.at_; have HZ := J hz_; have f0 := zab hz_ 0; have f1 := zab hz_ 1; have f2 := zab hz_ 2; have f3 := zab hz_ 3; obtain ⟨⟨d0, d1, d2, d3⟩, dl⟩ := zaB hz_; clear h1 h2 h3 h4 hv_ hz_ x0 x1 x2 x3)
 refine bodyPost_ret (zaM (r := .cell 2 24) rfl (.cell (W.heap.size) 24 _ (0, 0) _ rfl (za7 HZ.out) Try.underlying24 rfl qb .nil)) rfl ?_
 refine ⟨b9_, q9, b9_l, ?_⟩
 obtain ⟨wd8, u8, l8, e1, e2, e3, e4, e5⟩ := HEND.out; exact ⟨_, _, wd8, u8, l8, e1, e2, e3.more q9, e4⟩
theorem st_return (g : Nat) (A : Option Addr) (c : Nat) (lt : List S40) (htk : TkOk lt) (a : Nat) (hK : zaC.f (cu lt a) = some 58) (hexp : ∀ a1, a < a1 → CExpr g A c lt a1) (W : World) (hP : PS W g A c lt a) :
  Calls Try.prog 46 #[.pointer (some ⟨g, 0, none⟩)] W fun e W' => ∃ a', a < a' ∧ a' ≤ lt.length ∧ Ret g A c lt W a' (40 * (a' - a) - 10) e W' := by
 have HTO := J htk; have HLT := J (cu_lt (stmt_ne hK q9))
 have HLEN := J hP.len; have HLE := J (And.intro hP.le (hd_ge lt a)); have HEXP := J hexp; clear htk hexp; have hu := Try.underlying24; go_enter Try.func46, Try.ntmps46
 go_upto_region 1 with (fail)
 obtain ⟨X, hX⟩ : ∃ X, X = W.alloc (nodeO 0 0 0 (.slice none 0 0)) := ⟨_, rfl⟩; obtain ⟨h2, hv⟩ := S2.start1 hP hX; change Code.wp Try.prog _ _ _ (W.alloc (nodeO 0 0 0 (.slice none 0 0)))
 rw [← hX]; generalize oky (fun q => W.heap.size ≤ q) W.heap.size = okx at h2 hv
 have I2 := J h2; have IV := J hv; clear h2 hv hX hP; have HKC := J (za5 g A c lt a X I2.out.ps); obtain ⟨q, hq⟩ : ∃ q, q = cu lt a := ⟨_, rfl⟩; rw [← hq] at HKC hK; have HQ := J hq; have HRR := J hK; clear hq hK; go_upto_region 2 with (first | (go_at_call 21; refine HKC.out.mono ?_; rintro e w2 ⟨rfl, hb2⟩; have H2 := J (I2.out.below hb2); have HV := J (IV.out.below hb2); clear hb2 I2 IV HKC) | (go_at_call 43; refine (zaC.calls _ _ _ HRR.out).mono ?_; rintro e w3 ⟨rfl, hd2⟩; have hb2 := hd2.below; clear hd2; have G2 := J (H2.out.below hb2); have GV := J (HV.out.below hb2); clear hb2 H2 HV))
 have J2 := J (G2.out.newv (o := nodeO 58 0 0 (.slice none 0 0))); have JN := J (NI.new_ (b := W.heap.size) (okx := okx) (W := W) (r := none) (X := w3) (N := 1) G2.out.fr.size (NV.leaf (k := 58) (w := 0) (wd := 0) q9 q9 q9 (Nat.le_refl _)) (.inl rfl))
 have JV := J (GV.out.newv (o := nodeO 58 0 0 (.slice none 0 0))); have HNE := J GV.out.zav; obtain ⟨X1, hX1⟩ : ∃ X1, X1 = w3.alloc (nodeO 58 0 0 (.slice none 0 0)) := ⟨_, rfl⟩; rw [← hX1] at J2 JN JV; change Code.wp Try.prog _ _ _ (w3.alloc (nodeO 58 0 0 (.slice none 0 0)))
 rw [← hX1]; clear hX1 G2 GV; obtain ⟨hla, hlh⟩ := HLE.out; have hlt_ := HLT.out; have hln_ := HLEN.out; obtain ⟨x0, x1, x2, x3⟩ := JN.out.cells; go_upto_region 35 with (go_at_call 47; refine (zbq g A c lt HTO.out a W.heap.size (oky okx w3.heap.size) X1 58 0 0 _ [] 1 J2.out.ps JN.out.nv J2.out.fr.size (fun q hq => J2.out.hg q (J2.out.sub q hq)) J2.out.fresh hlt_ q9).mono ?_; rintro e w11 ⟨wd11, u11, l11, rfl, h1, h2, h3, h4⟩; obtain ⟨A11, c11, rfl, _, _⟩ := Kd.zaL h2.row; have hp_ := JN.out.vi.same (J2.out.var JN.out.vi h3 (fun q hq => JN.out.nv.row.1 q hq)); have J11_ := J ((J2.out.ext JN.out h1 h3).put (k := 58) (w := 0) (wd := wd11) (u := .slice A11 l11.length c11) hp_); have N11_ := J (NI.put hp_ h2 (zaF JN.out.near J2.out.fr.size h4)); have hv_ := JV.out.same (J2.out.var JV.out h3 (fun q hq => JN.out.nv.row.1 q hq)); have V11_ := J (hv_.put (p := w3.heap.size) (k := 58) (w := 0) (wd := wd11) (u := .slice A11 l11.length c11) (fun e_ => qr)); clear hv_; obtain ⟨z0, z1, z2, z3, hz_⟩ := hp_.at_; have f0 := zab hz_ 0; have f1 := zab hz_ 1; have f2 := zab hz_ 2; have f3 := zab hz_ 3; obtain ⟨⟨d0, d1, d2, d3⟩, dl⟩ := zaB hz_; clear h1 h2 h3 h4 hp_ hz_ x0 x1 x2 x3 J2 JN JV)
 obtain ⟨X11, hX1⟩ : ∃ X1, X1 = putN w11 w3.heap.size 58 0 wd11 (.slice A11 l11.length c11) := ⟨_, rfl⟩; rw [← hX1] at J11_ N11_ V11_; simp only [putN] at hX1; rw [← hX1]; clear hX1 f0 f1 f2 f3 d0 d1 d2 d3 dl; obtain ⟨b11, hb_⟩ : ∃ b_, b_ = hd lt a + 1 := ⟨_, rfl⟩; have hh_ := hd_ge lt a; have b11a : a < b11 := by omega
 have b11l : b11 ≤ lt.length := by omega
 rw [← hb_] at J11_; have n_ := J (N11_.out.more (N' := 40 * (b11 - a) - 38) q9)
 clear N11_ hb_ hh_; have N11_ := n_; clear n_; have HKC_ := J (za5 g A c lt b11 X11 J11_.out.ps); obtain ⟨q_, hq_⟩ : ∃ q_, q_ = cu lt b11 := ⟨_, rfl⟩; rw [← hq_] at HKC_; have HQ_ := J hq_; clear hq_; obtain ⟨rr_, hrr_⟩ := expr_tot q_; have HR2 := J hrr_; clear hrr_; cases rr_ with
 | false =>
  go_upto_region 37 with (first | (go_at_call 21; refine HKC_.out.mono ?_; rintro e w12 ⟨rfl, hb2⟩; have J12_ := J (J11_.out.below hb2); have N12_ := J (N11_.out.below hb2); have V12_ := J (V11_.out.below hb2); clear hb2 J11_ N11_ V11_ HKC_) | (go_at_call 59; refine (zaE.calls _ _ _ HR2.out).mono ?_; rintro e w13 ⟨rfl, hd2⟩; have hb2 := hd2.below; clear hd2; have J13_ := J (J12_.out.below hb2); have N13_ := J (N12_.out.below hb2); have V13_ := J (V12_.out.below hb2); clear hb2 J12_ N12_ V12_))
  obtain ⟨x0, x1, x2, x3⟩ := N13_.out.cells; go_wp2_with (go_at_call 60; refine (zbA g A c lt HTO.out b11 W.heap.size (oky okx w3.heap.size) w13 58 0 wd11 _ l11 (40 * (b11 - a) - 38) 25 q9 J13_.out.ps N13_.out.nv J13_.out.fr.size (fun q hq => J13_.out.hg q (J13_.out.sub q hq)) J13_.out.fresh q9).mono ?_; rintro e w99 ⟨b9_, b9_a, b9_l, wd99, u99, l99, rfl, h1, h2, h3, h4⟩; obtain ⟨A99, c99, rfl, _, _⟩ := Kd.zaL h2.row; have hv_ := V13_.out.same (J13_.out.var V13_.out h3 (fun q hq => N13_.out.nv.row.1 q hq)); have HEND := J ((J13_.out.ext N13_.out h1 h3).done hv_ h2 (zaF N13_.out.near J13_.out.fr.size h4)); obtain ⟨z0, z1, z2, z3, hz_⟩ := hv_.at_; have HZ := J hz_; have f0 := zab hz_ 0; have f1 := zab hz_ 1; have f2 := zab hz_ 2; have f3 := zab hz_ 3; obtain ⟨⟨d0, d1, d2, d3⟩, dl⟩ := zaB hz_; clear h1 h2 h3 h4 hv_ hz_ x0 x1 x2 x3)
  refine bodyPost_ret (zaM (r := .cell 2 24) rfl (.cell (W.heap.size) 24 _ (0, 0) _ rfl (za7 HZ.out) Try.underlying24 rfl qb .nil)) rfl ?_
  refine ⟨b9_, q9, b9_l, ?_⟩
  obtain ⟨wd8, u8, l8, e1, e2, e3, e4, e5⟩ := HEND.out; exact ⟨_, _, wd8, u8, l8, e1, e2, e3.more q9, e4⟩
 | true =>
  go_upto_region 36 with (first | (go_at_call 21; refine HKC_.out.mono ?_; rintro e w12 ⟨rfl, hb2⟩; have J12_ := J (J11_.out.below hb2); have N12_ := J (N11_.out.below hb2); have V12_ := J (V11_.out.below hb2); clear hb2 J11_ N11_ V11_ HKC_) | (go_at_call 59; refine (zaE.calls _ _ _ HR2.out).mono ?_; rintro e w13 ⟨rfl, hd2⟩; have hb2 := hd2.below; clear hd2; have J13_ := J (J12_.out.below hb2); have N13_ := J (N12_.out.below hb2); have V13_ := J (V12_.out.below hb2); clear hb2 J12_ N12_ V12_))
  obtain ⟨x0, x1, x2, x3⟩ := N13_.out.cells; go_upto_region 37 with (go_at_call 61; refine (HEXP.out b11 q9 W.heap.size (oky okx w3.heap.size) w13 58 0 wd11 _ l11 (40 * (b11 - a) - 38) J13_.out.ps N13_.out.nv J13_.out.fr.size (fun q hq => J13_.out.hg q (J13_.out.sub q hq)) J13_.out.fresh q9).mono ?_; rintro e w14 ⟨b14, b14a, b14l, wd14, u14, l14, rfl, h1, h2, h3, h4⟩; obtain ⟨A14, c14, rfl, _, _⟩ := Kd.zaL h2.row; have hp_ := N13_.out.vi.same (J13_.out.var N13_.out.vi h3 (fun q hq => N13_.out.nv.row.1 q hq)); have J14_ := J ((J13_.out.ext N13_.out h1 h3).put (k := 58) (w := 0) (wd := wd14) (u := .slice A14 l14.length c14) hp_); have N14_ := J (NI.put hp_ h2 (zaF N13_.out.near J13_.out.fr.size h4)); have hv_ := V13_.out.same (J13_.out.var V13_.out h3 (fun q hq => N13_.out.nv.row.1 q hq)); have V14_ := J (hv_.put (p := w3.heap.size) (k := 58) (w := 0) (wd := wd14) (u := .slice A14 l14.length c14) (fun e_ => qr)); clear hv_; obtain ⟨z0, z1, z2, z3, hz_⟩ := hp_.at_; have f0 := zab hz_ 0; have f1 := zab hz_ 1; have f2 := zab hz_ 2; have f3 := zab hz_ 3; obtain ⟨⟨d0, d1, d2, d3⟩, dl⟩ := zaB hz_; clear h1 h2 h3 h4 hp_ hz_ x0 x1 x2 x3 J13_ N13_ V13_)
  obtain ⟨X14, hX1⟩ : ∃ X1, X1 = putN w14 w3.heap.size 58 0 wd14 (.slice A14 l14.length c14) := ⟨_, rfl⟩; rw [← hX1] at J14_ N14_ V14_; simp only [putN] at hX1; rw [← hX1]; clear hX1 f0 f1 f2 f3 d0 d1 d2 d3 dl; have n_ := J (N14_.out.more (N' := 40 * (b14 - a) - 37) q9)
  clear N14_; have N14_ := n_; clear n_; obtain ⟨x0, x1, x2, x3⟩ := N14_.out.cells; go_wp2_with (go_at_call 60; refine (zbA g A c lt HTO.out b14 W.heap.size (oky okx w3.heap.size) X14 58 0 wd14 _ l14 (40 * (b14 - a) - 37) 25 q9 J14_.out.ps N14_.out.nv J14_.out.fr.size (fun q hq => J14_.out.hg q (J14_.out.sub q hq)) J14_.out.fresh q9).mono ?_; rintro e w99 ⟨b9_, b9_a, b9_l, wd99, u99, l99, rfl, h1, h2, h3, h4⟩; obtain ⟨A99, c99, rfl, _, _⟩ := Kd.zaL h2.row; have hv_ := V14_.out.same (J14_.out.var V14_.out h3 (fun q hq => N14_.out.nv.row.1 q hq)); have HEND := J ((J14_.out.ext N14_.out h1 h3).done hv_ h2 (zaF N14_.out.near J14_.out.fr.size h4)); obtain ⟨z0, z1, z2, z3, hz_⟩ := hv_.at_; have HZ := J hz_; have f0 := zab hz_ 0; have f1 := zab hz_ 1; have f2 := zab hz_ 2; have f3 := zab hz_ 3; obtain ⟨⟨d0, d1, d2, d3⟩, dl⟩ := zaB hz_; clear h1 h2 h3 h4 hv_ hz_ x0 x1 x2 x3)
  refine bodyPost_ret (zaM (r := .cell 2 24) rfl (.cell (W.heap.size) 24 _ (0, 0) _ rfl (za7 HZ.out) Try.underlying24 rfl qb .nil)) rfl ?_
  refine ⟨b9_, q9, b9_l, ?_⟩
  obtain ⟨wd8, u8, l8, e1, e2, e3, e4, e5⟩ := HEND.out; exact ⟨_, _, wd8, u8, l8, e1, e2, e3.more q9, e4⟩
theorem st_block (g : Nat) (A : Option Addr) (c : Nat) (lt : List S40) (htk : TkOk lt) (a : Nat) (hK : zaC.f (cu lt a) = some 52) (hbeg : CBegun g A c lt a) (W : World) (hP : PS W g A c lt a) :
  Calls Try.prog 46 #[.pointer (some ⟨g, 0, none⟩)] W fun e W' => ∃ a', a < a' ∧ a' ≤ lt.length ∧ Ret g A c lt W a' (40 * (a' - a) - 10) e W' := by
 have HTO := J htk; have HLT := J (cu_lt (stmt_ne hK q9))
 have HLEN := J hP.len; have HLE := J (And.intro hP.le (hd_ge lt a)); have HBEG := J hbeg; clear htk hbeg; have hu := Try.underlying24; go_enter Try.func46, Try.ntmps46
 go_upto_region 1 with (fail)
 obtain ⟨X, hX⟩ : ∃ X, X = W.alloc (nodeO 0 0 0 (.slice none 0 0)) := ⟨_, rfl⟩; obtain ⟨h2, hv⟩ := S2.start1 hP hX; change Code.wp Try.prog _ _ _ (W.alloc (nodeO 0 0 0 (.slice none 0 0)))
 rw [← hX]; generalize oky (fun q => W.heap.size ≤ q) W.heap.size = okx at h2 hv
 have I2 := J h2; have IV := J hv; clear h2 hv hX hP; have HKC := J (za5 g A c lt a X I2.out.ps); obtain ⟨q, hq⟩ : ∃ q, q = cu lt a := ⟨_, rfl⟩; rw [← hq] at HKC hK; have HQ := J hq; have HRR := J hK; clear hq hK; go_upto_region 2 with (first | (go_at_call 21; refine HKC.out.mono ?_; rintro e w2 ⟨rfl, hb2⟩; have H2 := J (I2.out.below hb2); have HV := J (IV.out.below hb2); clear hb2 I2 IV HKC) | (go_at_call 43; refine (zaC.calls _ _ _ HRR.out).mono ?_; rintro e w3 ⟨rfl, hd2⟩; have hb2 := hd2.below; clear hd2; have G2 := J (H2.out.below hb2); have GV := J (HV.out.below hb2); clear hb2 H2 HV))
 have J2 := J (G2.out.newv (o := nodeO 52 0 0 (.slice none 0 0))); have JN := J (NI.new_ (b := W.heap.size) (okx := okx) (W := W) (r := none) (X := w3) (N := 1) G2.out.fr.size (NV.leaf (k := 52) (w := 0) (wd := 0) q9 q9 q9 (Nat.le_refl _)) (.inl rfl))
 have JV := J (GV.out.newv (o := nodeO 52 0 0 (.slice none 0 0))); have HNE := J GV.out.zav; obtain ⟨X1, hX1⟩ : ∃ X1, X1 = w3.alloc (nodeO 52 0 0 (.slice none 0 0)) := ⟨_, rfl⟩; rw [← hX1] at J2 JN JV; change Code.wp Try.prog _ _ _ (w3.alloc (nodeO 52 0 0 (.slice none 0 0)))
 rw [← hX1]; clear hX1 G2 GV; obtain ⟨hla, hlh⟩ := HLE.out; have hlt_ := HLT.out; have hln_ := HLEN.out; obtain ⟨x0, x1, x2, x3⟩ := JN.out.cells; go_upto_region 40 with (go_at_call 44; refine (taken_calls g A c lt a W.heap.size (oky okx w3.heap.size) X1 0 0 0 _ [] 1 52 J2.out.ps (NV.leaf q9 q9 q9 (Nat.le_refl _)) (fun q hq => J2.out.hg q (J2.out.sub q hq))).mono ?_; rintro e w4 ⟨rfl, h1, h2, h3⟩; have h4 : Fr g none X1 w4 := h3; have K2 := J ((J2.out.ret h1 h4).newv (o := nodeO 0 0 0 (.slice none 0 0))); have KV := J ((VI.ret J2.out JV.out h4).newv (o := nodeO 0 0 0 (.slice none 0 0))); clear h1 h2 h3 h4 J2 JN JV x0 x1 x2 x3)
 obtain ⟨Y, hX1⟩ : ∃ X1, X1 = w4.alloc (nodeO 0 0 0 (.slice none 0 0)) := ⟨_, rfl⟩; rw [← hX1] at K2 KV; change Code.wp Try.prog _ _ _ (w4.alloc (nodeO 0 0 0 (.slice none 0 0)))
 rw [← hX1]; clear hX1; go_upto_region 42 with (fail)
 go_wp2_with (go_at_call 64; refine (HBEG.out Y K2.out.ps HLT.out).mono ?_; rintro e w5 ⟨b1, b1a, b1l, k1, w1, wd1, u1, l1, rfl, h1, h2, h3⟩; obtain ⟨A1, c1, rfl, _, _⟩ := Kd.zaL h2.row; have hv_ := VI.ret K2.out KV.out h3; have HEND := J ((K2.out.ret h1 h3).done hv_ (nv_new (b := W.heap.size) h2 K2.out.fr.size K2.out.fresh) (near_new (W := W) h2 K2.out.fr.size)); obtain ⟨z0, z1, z2, z3, hz_⟩ := hv_.at_; have HZ := J hz_; have f0 := zab hz_ 0; have f1 := zab hz_ 1; have f2 := zab hz_ 2; have f3 := zab hz_ 3; obtain ⟨⟨d0, d1, d2, d3⟩, dl⟩ := zaB hz_; clear h1 h2 h3 hv_ hz_)
 refine bodyPost_ret (zaM (r := .cell 2 24) rfl (.cell (W.heap.size) 24 _ (0, 0) _ rfl (za7 HZ.out) Try.underlying24 rfl qb .nil)) rfl ?_
 refine ⟨b1, q9, b1l, ?_⟩
 obtain ⟨wd8, u8, l8, e1, e2, e3, e4, e5⟩ := HEND.out; exact ⟨_, _, wd8, u8, l8, e1, e2, e3.more q9, e4⟩
theorem st_do (g : Nat) (A : Option Addr) (c : Nat) (lt : List S40) (htk : TkOk lt) (a : Nat) (hK : zaC.f (cu lt a) = some 59) (hexp : ∀ a1, a < a1 → CExpr g A c lt a1) (hexs : CExprS g A c lt a) (hx : zaE.f (cu lt a) = some true) (W : World) (hP : PS W g A c lt a) :
  Calls Try.prog 46 #[.pointer (some ⟨g, 0, none⟩)] W fun e W' => ∃ a', a < a' ∧ a' ≤ lt.length ∧ Ret g A c lt W a' (40 * (a' - a) - 10) e W' := by
 have HX := J hx; clear hx; have HTO := J htk; have HLT := J (cu_lt (stmt_ne hK q9))
 have HLEN := J hP.len; have HLE := J (And.intro hP.le (hd_ge lt a)); have HEXP := J hexp; have HEXS := J hexs; clear htk hexp hexs; have hu := Try.underlying24; go_enter Try.func46, Try.ntmps46
 go_upto_region 1 with (fail)
 obtain ⟨X, hX⟩ : ∃ X, X = W.alloc (nodeO 0 0 0 (.slice none 0 0)) := ⟨_, rfl⟩; obtain ⟨h2, hv⟩ := S2.start1 hP hX; change Code.wp Try.prog _ _ _ (W.alloc (nodeO 0 0 0 (.slice none 0 0)))
 rw [← hX]; generalize oky (fun q => W.heap.size ≤ q) W.heap.size = okx at h2 hv
 have I2 := J h2; have IV := J hv; clear h2 hv hX hP; have HKC := J (za5 g A c lt a X I2.out.ps); obtain ⟨q, hq⟩ : ∃ q, q = cu lt a := ⟨_, rfl⟩; rw [← hq] at HKC hK; have HQ := J hq; have HRR := J hK; clear hq hK; go_upto_region 2 with (first | (go_at_call 21; refine HKC.out.mono ?_; rintro e w2 ⟨rfl, hb2⟩; have H2 := J (I2.out.below hb2); have HV := J (IV.out.below hb2); clear hb2 I2 IV HKC) | (go_at_call 43; refine (zaC.calls _ _ _ HRR.out).mono ?_; rintro e w3 ⟨rfl, hd2⟩; have hb2 := hd2.below; clear hd2; have G2 := J (H2.out.below hb2); have GV := J (HV.out.below hb2); clear hb2 H2 HV))
 have J2 := J (G2.out.newv (o := nodeO 59 0 0 (.slice none 0 0))); have JN := J (NI.new_ (b := W.heap.size) (okx := okx) (W := W) (r := none) (X := w3) (N := 1) G2.out.fr.size (NV.leaf (k := 59) (w := 0) (wd := 0) q9 q9 q9 (Nat.le_refl _)) (.inl rfl))
 have JV := J (GV.out.newv (o := nodeO 59 0 0 (.slice none 0 0))); have HNE := J GV.out.zav; obtain ⟨X1, hX1⟩ : ∃ X1, X1 = w3.alloc (nodeO 59 0 0 (.slice none 0 0)) := ⟨_, rfl⟩; rw [← hX1] at J2 JN JV; change Code.wp Try.prog _ _ _ (w3.alloc (nodeO 59 0 0 (.slice none 0 0)))
 rw [← hX1]; clear hX1 G2 GV; obtain ⟨hla, hlh⟩ := HLE.out; have hlt_ := HLT.out; have hln_ := HLEN.out; obtain ⟨x0, x1, x2, x3⟩ := JN.out.cells; go_upto_region 44 with (go_at_call 61; refine (HEXS.out W.heap.size (oky okx w3.heap.size) X1 59 0 0 _ [] 1 J2.out.ps JN.out.nv J2.out.fr.size (fun q hq => J2.out.hg q (J2.out.sub q hq)) J2.out.fresh q9).mono ?_; rintro e w11 ⟨b11, b11a, b11l, hsh, wd11, u11, l11, rfl, h1, h2, h3, h4⟩; obtain ⟨A11, c11, rfl, _, _⟩ := Kd.zaL h2.row; have hp_ := JN.out.vi.same (J2.out.var JN.out.vi h3 (fun q hq => JN.out.nv.row.1 q hq)); have J11_ := J ((J2.out.ext JN.out h1 h3).put (k := 59) (w := 0) (wd := wd11) (u := .slice A11 l11.length c11) hp_); have N11_ := J (NI.put hp_ h2 (zaF JN.out.near J2.out.fr.size h4)); have hv_ := JV.out.same (J2.out.var JV.out h3 (fun q hq => JN.out.nv.row.1 q hq)); have V11_ := J (hv_.put (p := w3.heap.size) (k := 59) (w := 0) (wd := wd11) (u := .slice A11 l11.length c11) (fun e_ => qr)); clear hv_; obtain ⟨z0, z1, z2, z3, hz_⟩ := hp_.at_; have f0 := zab hz_ 0; have f1 := zab hz_ 1; have f2 := zab hz_ 2; have f3 := zab hz_ 3; obtain ⟨⟨d0, d1, d2, d3⟩, dl⟩ := zaB hz_; clear h1 h2 h3 h4 hp_ hz_ x0 x1 x2 x3 J2 JN JV)
 obtain ⟨X11, hX1⟩ : ∃ X1, X1 = putN w11 w3.heap.size 59 0 wd11 (.slice A11 l11.length c11) := ⟨_, rfl⟩; rw [← hX1] at J11_ N11_ V11_; simp only [putN] at hX1; rw [← hX1]; clear hX1 f0 f1 f2 f3 d0 d1 d2 d3 dl; have n_ := J (N11_.out.more (N' := 40 * (b11 - a) - 18) (by rw [if_neg (by have := hsh HX.out; omega)]; have := hsh HX.out; omega))
 have hge_ := hsh HX.out; clear hsh N11_; have N11_ := n_; clear n_; have HKC_ := J (za5 g A c lt b11 X11 J11_.out.ps); obtain ⟨q_, hq_⟩ : ∃ q_, q_ = cu lt b11 := ⟨_, rfl⟩; rw [← hq_] at HKC_; have HQ_ := J hq_; clear hq_; by_cases hq26 : q_ = 26
 case neg =>
  have d26 : (q_ == 26) = false := by simp [hq26]
  clear hq26; go_upto_region 47 with (go_at_call 21; refine HKC_.out.mono ?_; rintro e w12 ⟨rfl, hb2⟩; have J12_ := J (J11_.out.below hb2); have N12_ := J (N11_.out.below hb2); have V12_ := J (V11_.out.below hb2); clear hb2 J11_ N11_ V11_ HKC_)
  obtain ⟨x0, x1, x2, x3⟩ := N12_.out.cells; go_wp2_with (go_at_call 60; refine (zbA g A c lt HTO.out b11 W.heap.size (oky okx w3.heap.size) w12 59 0 wd11 _ l11 (40 * (b11 - a) - 18) 25 q9 J12_.out.ps N12_.out.nv J12_.out.fr.size (fun q hq => J12_.out.hg q (J12_.out.sub q hq)) J12_.out.fresh q9).mono ?_; rintro e w99 ⟨b9_, b9_a, b9_l, wd99, u99, l99, rfl, h1, h2, h3, h4⟩; obtain ⟨A99, c99, rfl, _, _⟩ := Kd.zaL h2.row; have hv_ := V12_.out.same (J12_.out.var V12_.out h3 (fun q hq => N12_.out.nv.row.1 q hq)); have HEND := J ((J12_.out.ext N12_.out h1 h3).done hv_ h2 (zaF N12_.out.near J12_.out.fr.size h4)); obtain ⟨z0, z1, z2, z3, hz_⟩ := hv_.at_; have HZ := J hz_; have f0 := zab hz_ 0; have f1 := zab hz_ 1; have f2 := zab hz_ 2; have f3 := zab hz_ 3; obtain ⟨⟨d0, d1, d2, d3⟩, dl⟩ := zaB hz_; clear h1 h2 h3 h4 hv_ hz_ x0 x1 x2 x3)
  refine bodyPost_ret (zaM (r := .cell 2 24) rfl (.cell (W.heap.size) 24 _ (0, 0) _ rfl (za7 HZ.out) Try.underlying24 rfl qb .nil)) rfl ?_
  refine ⟨b9_, q9, b9_l, ?_⟩
  obtain ⟨wd8, u8, l8, e1, e2, e3, e4, e5⟩ := HEND.out; exact ⟨_, _, wd8, u8, l8, e1, e2, e3.more q9, e4⟩
 case pos =>
  have d26 : (q_ == 26) = true := by simp [hq26]
  have hlt2_ := cu_lt (l := lt) (by rw [← HQ_.out, hq26]; omega)
  clear hq26; go_upto_region 45 with (go_at_call 21; refine HKC_.out.mono ?_; rintro e w12 ⟨rfl, hb2⟩; have J12_ := J (J11_.out.below hb2); have N12_ := J (N11_.out.below hb2); have V12_ := J (V11_.out.below hb2); clear hb2 J11_ N11_ V11_ HKC_)
  obtain ⟨x0, x1, x2, x3⟩ := N12_.out.cells; go_upto_region 46 with (go_at_call 47; refine (zbq g A c lt HTO.out b11 W.heap.size (oky okx w3.heap.size) w12 59 0 wd11 _ l11 (40 * (b11 - a) - 18) J12_.out.ps N12_.out.nv J12_.out.fr.size (fun q hq => J12_.out.hg q (J12_.out.sub q hq)) J12_.out.fresh hlt2_ q9).mono ?_; rintro e w13 ⟨wd13, u13, l13, rfl, h1, h2, h3, h4⟩; obtain ⟨A13, c13, rfl, _, _⟩ := Kd.zaL h2.row; have hp_ := N12_.out.vi.same (J12_.out.var N12_.out.vi h3 (fun q hq => N12_.out.nv.row.1 q hq)); have J13_ := J ((J12_.out.ext N12_.out h1 h3).put (k := 59) (w := 0) (wd := wd13) (u := .slice A13 l13.length c13) hp_); have N13_ := J (NI.put hp_ h2 (zaF N12_.out.near J12_.out.fr.size h4)); have hv_ := V12_.out.same (J12_.out.var V12_.out h3 (fun q hq => N12_.out.nv.row.1 q hq)); have V13_ := J (hv_.put (p := w3.heap.size) (k := 59) (w := 0) (wd := wd13) (u := .slice A13 l13.length c13) (fun e_ => qr)); clear hv_; obtain ⟨z0, z1, z2, z3, hz_⟩ := hp_.at_; have f0 := zab hz_ 0; have f1 := zab hz_ 1; have f2 := zab hz_ 2; have f3 := zab hz_ 3; obtain ⟨⟨d0, d1, d2, d3⟩, dl⟩ := zaB hz_; clear h1 h2 h3 h4 hp_ hz_ x0 x1 x2 x3 J12_ N12_ V12_)
  obtain ⟨X13, hX1⟩ : ∃ X1, X1 = putN w13 w3.heap.size 59 0 wd13 (.slice A13 l13.length c13) := ⟨_, rfl⟩; rw [← hX1] at J13_ N13_ V13_; simp only [putN] at hX1; rw [← hX1]; clear hX1 f0 f1 f2 f3 d0 d1 d2 d3 dl; obtain ⟨b13, hb_⟩ : ∃ b_, b_ = hd lt b11 + 1 := ⟨_, rfl⟩; have hh_ := hd_ge lt b11; have b13a : b11 < b13 := by omega
  have b13l : b13 ≤ lt.length := by omega
  rw [← hb_] at J13_; have n_ := J (N13_.out.more (N' := 40 * (b13 - a) - 18) q9)
  clear N13_ hb_ hh_; have N13_ := n_; clear n_; obtain ⟨x0, x1, x2, x3⟩ := N13_.out.cells; go_upto_region 47 with (go_at_call 61; refine (HEXP.out b13 q9 W.heap.size (oky okx w3.heap.size) X13 59 0 wd13 _ l13 (40 * (b13 - a) - 18) J13_.out.ps N13_.out.nv J13_.out.fr.size (fun q hq => J13_.out.hg q (J13_.out.sub q hq)) J13_.out.fresh q9).mono ?_; rintro e w14 ⟨b14, b14a, b14l, wd14, u14, l14, rfl, h1, h2, h3, h4⟩; obtain ⟨A14, c14, rfl, _, _⟩ := Kd.zaL h2.row; have hp_ := N13_.out.vi.same (J13_.out.var N13_.out.vi h3 (fun q hq => N13_.out.nv.row.1 q hq)); have J14_ := J ((J13_.out.ext N13_.out h1 h3).put (k := 59) (w := 0) (wd := wd14) (u := .slice A14 l14.length c14) hp_); have N14_ := J (NI.put hp_ h2 (zaF N13_.out.near J13_.out.fr.size h4)); have hv_ := V13_.out.same (J13_.out.var V13_.out h3 (fun q hq => N13_.out.nv.row.1 q hq)); have V14_ := J (hv_.put (p := w3.heap.size) (k := 59) (w := 0) (wd := wd14) (u := .slice A14 l14.length c14) (fun e_ => qr)); clear hv_; obtain ⟨z0, z1, z2, z3, hz_⟩ := hp_.at_; have f0 := zab hz_ 0; have f1 := zab hz_ 1; have f2 := zab hz_ 2; have f3 := zab hz_ 3; obtain ⟨⟨d0, d1, d2, d3⟩, dl⟩ := zaB hz_; clear h1 h2 h3 h4 hp_ hz_ x0 x1 x2 x3 J13_ N13_ V13_)
  obtain ⟨X14, hX1⟩ : ∃ X1, X1 = putN w14 w3.heap.size 59 0 wd14 (.slice A14 l14.length c14) := ⟨_, rfl⟩; rw [← hX1] at J14_ N14_ V14_; simp only [putN] at hX1; rw [← hX1]; clear hX1 f0 f1 f2 f3 d0 d1 d2 d3 dl; have n_ := J (N14_.out.more (N' := 40 * (b14 - a) - 17) q9)
  clear N14_; have N14_ := n_; clear n_; obtain ⟨x0, x1, x2, x3⟩ := N14_.out.cells; go_wp2_with (go_at_call 60; refine (zbA g A c lt HTO.out b14 W.heap.size (oky okx w3.heap.size) X14 59 0 wd14 _ l14 (40 * (b14 - a) - 17) 25 q9 J14_.out.ps N14_.out.nv J14_.out.fr.size (fun q hq => J14_.out.hg q (J14_.out.sub q hq)) J14_.out.fresh q9).mono ?_; rintro e w99 ⟨b9_, b9_a, b9_l, wd99, u99, l99, rfl, h1, h2, h3, h4⟩; obtain ⟨A99, c99, rfl, _, _⟩ := Kd.zaL h2.row; have hv_ := V14_.out.same (J14_.out.var V14_.out h3 (fun q hq => N14_.out.nv.row.1 q hq)); have HEND := J ((J14_.out.ext N14_.out h1 h3).done hv_ h2 (zaF N14_.out.near J14_.out.fr.size h4)); obtain ⟨z0, z1, z2, z3, hz_⟩ := hv_.at_; have HZ := J hz_; have f0 := zab hz_ 0; have f1 := zab hz_ 1; have f2 := zab hz_ 2; have f3 := zab hz_ 3; obtain ⟨⟨d0, d1, d2, d3⟩, dl⟩ := zaB hz_; clear h1 h2 h3 h4 hv_ hz_ x0 x1 x2 x3)
  refine bodyPost_ret (zaM (r := .cell 2 24) rfl (.cell (W.heap.size) 24 _ (0, 0) _ rfl (za7 HZ.out) Try.underlying24 rfl qb .nil)) rfl ?_
  refine ⟨b9_, q9, b9_l, ?_⟩
  obtain ⟨wd8, u8, l8, e1, e2, e3, e4, e5⟩ := HEND.out; exact ⟨_, _, wd8, u8, l8, e1, e2, e3.more q9, e4⟩
theorem statement_calls (g : Nat) (A : Option Addr) (c : Nat) (lt : List S40) (htk : TkOk lt) (a : Nat) (hexp : ∀ a1, a < a1 → CExpr g A c lt a1) (hexs : CExprS g A c lt a) (hbl : ∀ a1, a < a1 → CBlock g A c lt a1) (hbeg : CBegun g A c lt a) (hst : ∀ a1, a < a1 → CStatement g A c lt a1) : CStatement g A c lt a := by
 rintro W hP ⟨r, hr, h0⟩
 rcases stmt_vals hr h0 with rfl | rfl | rfl | rfl | rfl | rfl | ⟨rfl, hx⟩
 ·exact st_let g A c lt htk a hr hexp W hP
 ·exact st_fn g A c lt htk a hr hbl W hP
 ·exact st_if g A c lt htk a hr hexp hbl hst W hP
 ·exact st_while g A c lt htk a hr hexp hbl W hP
 ·exact st_return g A c lt htk a hr hexp W hP
 ·exact st_block g A c lt htk a hr hbeg W hP
 ·exact st_do g A c lt htk a hr hexp hexs hx W hP
theorem lev_tot (x : Int) : ∃ r, zaA.f 3 x = some r ∧ (r ≠ 0 → x ≠ 0) := by
 by_cases h : x = 0
 ·subst h
  exact ⟨0, by simp [zaA.f, zaA.j0, zaA.j1], fun h => absurd rfl h⟩
 ·have : ∃ r, zaA.f 3 x = some r := by
   have t1 : ∀ k x b, ∃ r, zaA.j1 (k + 1) x b = some r := by
    intro k x b
    simp only [zaA.j1]; repeat' split
    all_goals exact ⟨_, rfl⟩
   have t0 : ∀ k x b, ∃ r, zaA.j0 (k + 2) x b = some r := by
    intro k x b
    simp only [zaA.j0]; repeat' split
    all_goals first | exact ⟨_, rfl⟩ | exact t1 _ _ _
   unfold zaA.f
   repeat' split
   all_goals first | exact ⟨_, rfl⟩ | exact t0 1 _ _
  obtain ⟨r, hr⟩ := this; exact ⟨r, hr, fun _ => h⟩
theorem level6_calls (g : Nat) (A : Option Addr) (c : Nat) (lt : List S40) (htk : TkOk lt) (a : Nat) (hun : CUnary g A c lt a) (W : World) (hP : PS W g A c lt a) (hlt : hd lt a < lt.length) :
  Calls Try.prog 73 #[.pointer (some ⟨g, 0, none⟩), .int .i64 6] W fun e W' => ∃ a', a < a' ∧ a' ≤ lt.length ∧ Ret g A c lt W a' (40 * (a' - a) - 20) e W' := by
 have HUN := J hun; clear hun; have HTO := J htk; have HLT := J hlt; have HLEN := J hP.len; clear htk hlt; have hu := Try.underlying24; go_enter Try.func73, Try.ntmps73
 go_upto_region 1 with (fail)
 obtain ⟨X, hX⟩ : ∃ X, X = W.alloc (nodeO 0 0 0 (.slice none 0 0)) := ⟨_, rfl⟩; obtain ⟨h2, hv⟩ := S2.start1 hP hX; change Code.wp Try.prog _ _ _ (W.alloc (nodeO 0 0 0 (.slice none 0 0)))
 rw [← hX]; generalize oky (fun q => W.heap.size ≤ q) W.heap.size = okx at h2 hv
 have I2 := J h2; have IV := J hv; clear h2 hv hX hP; go_wp2_with (go_at_call 77; refine (HUN.out X I2.out.ps HLT.out).mono ?_; rintro e w3 ⟨b1, b1a, b1l, k1, w1, wd1, u1, l1, rfl, h1, h2, h3⟩; obtain ⟨A1, c1, rfl, _, _⟩ := Kd.zaL h2.row; have hv_ := VI.ret I2.out IV.out h3; have HEND := J ((I2.out.ret h1 h3).done hv_ (nv_new (b := W.heap.size) h2 I2.out.fr.size I2.out.fresh) (near_new (W := W) h2 I2.out.fr.size)); obtain ⟨z0, z1, z2, z3, hz_⟩ := hv_.at_; have HZ := J hz_; have f0 := zab hz_ 0; have f1 := zab hz_ 1; have f2 := zab hz_ 2; have f3 := zab hz_ 3; obtain ⟨⟨d0, d1, d2, d3⟩, dl⟩ := zaB hz_; clear h1 h2 h3 hv_ hz_)
 refine bodyPost_ret (zaM (r := .cell 4 24) rfl (.cell (W.heap.size) 24 _ (0, 0) _ rfl (za7 HZ.out) Try.underlying24 rfl qb .nil)) rfl ?_
 refine ⟨b1, q9, b1l, ?_⟩
 obtain ⟨wd8, u8, l8, e1, e2, e3, e4, e5⟩ := HEND.out; exact ⟨_, _, wd8, u8, l8, e1, e2, e3.more q9, e4⟩
theorem level_calls (g : Nat) (A : Option Addr) (c : Nat) (lt : List S40) (htk : TkOk lt) (a : Nat) (j : Int) (hj1 : 1 ≤ j) (hj5 : j ≤ 5) (hle : CLevel g A c lt a (j + 1)) (hlv : ∀ a1, a < a1 → CLevel g A c lt a1 (j + 1)) (W : World) (hP : PS W g A c lt a) (hlt : hd lt a < lt.length) :
  Calls Try.prog 73 #[.pointer (some ⟨g, 0, none⟩), .int .i64 j] W fun e W' => ∃ a', a < a' ∧ a' ≤ lt.length ∧ Ret g A c lt W a' (40 * (a' - a) - 20) e W' := by
 have HLE := J hle; have HLA := J hlv; have d6 : (j == 6) = false := by simp; omega
 have HJ := J (And.intro hj1 hj5); clear hle hlv; have HTO := J htk; have HLT := J hlt; have HLEN := J hP.len; clear htk hlt; have hu := Try.underlying24; go_enter Try.func73, Try.ntmps73
 go_upto_region 1 with (fail)
 obtain ⟨X, hX⟩ : ∃ X, X = W.alloc (nodeO 0 0 0 (.slice none 0 0)) := ⟨_, rfl⟩; obtain ⟨h2, hv⟩ := S2.start1 hP hX; change Code.wp Try.prog _ _ _ (W.alloc (nodeO 0 0 0 (.slice none 0 0)))
 rw [← hX]; generalize oky (fun q => W.heap.size ≤ q) W.heap.size = okx at h2 hv
 have I2 := J h2; have IV := J hv; clear h2 hv hX hP; go_upto_region 4 with (go_at_call 73; refine (HLE.out X I2.out.ps HLT.out).mono ?_; rintro e w3 ⟨b1, b1a, b1l, k1, w1, wd1, u1, l1, rfl, h1, h2, h3⟩; obtain ⟨A1, c1, rfl, _, _⟩ := Kd.zaL h2.row; have hs_ := I2.out.ret h1 h3; have J2 := J (hs_.newv (o := nodeO k1 w1 wd1 (.slice A1 l1.length c1))); have JN := J (NI.new_ (W := W) (r := none) hs_.fr.size (nv_new (b := W.heap.size) h2 I2.out.fr.size I2.out.fresh) (near_new (W := W) h2 I2.out.fr.size)); have JV := J ((VI.ret I2.out IV.out h3).newv (o := nodeO k1 w1 wd1 (.slice A1 l1.length c1))); have HW3_ := J (show W.heap.size < w3.heap.size from Nat.lt_of_lt_of_le IV.out.zav h3.size); clear h1 h2 h3 hs_ I2 IV)
 have HNE := J HW3_.out; clear HW3_; obtain ⟨X1, hX1⟩ : ∃ X1, X1 = w3.alloc (nodeO k1 w1 wd1 (.slice A1 l1.length c1)) := ⟨_, rfl⟩; rw [← hX1] at J2 JN JV; change Code.wp Try.prog _ _ _ (w3.alloc (nodeO k1 w1 wd1 (.slice A1 l1.length c1)))
 rw [← hX1]; clear hX1; go_loopg [] (lt.length - b1) (fun kq w' => ∃ (ai : Nat) (ki wi wdi : Int) (vi : Value) (li : List S24), a < ai ∧ ai ≤ lt.length ∧ zaa (kq = lt.length - ai) ∧ zaa (S2 g A c lt (fun q => W.heap.size ≤ q) (oky okx w3.heap.size) W none w' ai) ∧ zaa (NI W.heap.size (oky okx w3.heap.size) W none w' w3.heap.size ki wi wdi vi li (40 * (ai - a) - 20)) ∧ zaa (VI (oky okx w3.heap.size) W w' W.heap.size))
 case atStart => exact ⟨b1, k1, w1, wd1, _, l1, b1a, b1l, ⟨rfl⟩, J2, JN, JV⟩
 case round =>
  obtain ⟨ai, ki, wi, wdi, vi, li, hai, hail, HK, M2, MN, MV⟩ := hrel; obtain ⟨Ai, ci, rfl, _, _⟩ := Kd.zaL MN.out.nv.row; have HKC := J (za5 g A c lt ai wr M2.out.ps); obtain ⟨q2, hq2⟩ : ∃ q2, q2 = cu lt ai := ⟨_, rfl⟩; rw [← hq2] at HKC; have HQ2 := J hq2; clear hq2; obtain ⟨r2, hr2, hr0⟩ := lev_tot q2; have HLV := J hr2; have HR0 := J hr0; clear hr2 hr0; by_cases hrj : r2 = j
  ·have drj : (r2 == j) = true := by simp [hrj]
   have HLI := J (cu_lt (l := lt) (a := ai) (by rw [← HQ2.out]; exact HR0.out q9))
   have HGI := J (hd_ge lt ai); clear hrj HR0; have HM1 := J (fun q hq => M2.out.sub q hq)
   have HM3 := J MN.out.out; have HM4 := J MV.out.out; go_upto_region 5 with (first | (go_at_call 21; refine HKC.out.mono ?_; rintro e w6 ⟨rfl, hb2⟩; have N2 := J (M2.out.below hb2); have NN := J (MN.out.below hb2); have NV_ := J (MV.out.below hb2); clear hb2 M2 MN MV HKC) | (go_at_call 78; refine (zaA.calls 3 _ _ _ HLV.out).mono ?_; rintro e w7 ⟨rfl, hd2⟩; have hb2 := hd2.below; clear hd2; have O2 := J (N2.out.below hb2); have ON := J (NN.out.below hb2); have OV := J (NV_.out.below hb2); clear hb2 N2 NN NV_))
   obtain ⟨x0, x1, x2, x3⟩ := ON.out.cells; go_upto_region 6 with (first | (go_at_call 45; refine (zb0 W.heap.size (oky okx w3.heap.size) w7 61 0 0 (.slice none 0 0) [] 1 _ _ _ _ _ (40 * (ai - a) - 20) (NV.leaf q9 q9 q9 (Nat.le_refl _)) O2.out.fr.size O2.out.fresh (ON.out.nv.mono (fun q hq => ⟨hq, qR⟩)) qz).mono ?_; rintro e w8 ⟨wd7, u7, l7, rfl, h1, h2, h3⟩; obtain ⟨A7, c7, rfl, _, _⟩ := Kd.zaL h1.row; have hfr : Fr g none w7 w8 := Fr.zaX h2; have P2 := J (O2.out.ret (O2.out.ps.keep (fun q hq => h2.block q (by have := O2.out.ps.lt; omega) qR)) hfr); have PN := J h1; have PA := J (zaF (v := .slice none 0 0) (.inl rfl) O2.out.fr.size h3 : Near W none _); have PT := J (VI.ret O2.out ON.out.vi hfr); have PV := J (VI.ret O2.out OV.out hfr); clear h1 h2 h3 hfr O2 ON OV x0 x1 x2 x3) | (go_at_call 47; refine (zbq g A c lt HTO.out ai W.heap.size (oky okx w3.heap.size) w8 61 0 wd7 _ l7 (1 + (40 * (ai - a) - 20)) P2.out.ps PN.out P2.out.fr.size (fun q hq => P2.out.hg q (P2.out.sub q hq)) P2.out.fresh HLI.out Qk).mono ?_; rintro e w9 ⟨wd4, u4, l4, rfl, h1, h2, h3, h4⟩; obtain ⟨A4, c4, rfl, _, _⟩ := Kd.zaL h2.row; have hs_ : S2 g A c lt (fun q => W.heap.size ≤ q) (oky okx w3.heap.size) W none w9 (hd lt ai + 1) := ⟨h1, P2.out.fr.trans h3 (near_row PA.out), P2.out.gW, P2.out.hg, P2.out.sub, fun q hq => P2.out.fresh q (Nat.le_trans h3.size hq)⟩; have hr_ : ∀ q, (Value.slice A7 l7.length c7).ownBlock = some q → (oky okx w3.heap.size) q := fun q hq => PN.out.row.1 q hq; have Q2 := J (hs_.newv (o := nodeO 61 0 wd4 (.slice A4 l4.length c4))); have QN := J (NI.new_ (W := W) (r := none) hs_.fr.size h2 (zaF PA.out P2.out.fr.size h4)); have QT := J ((PT.out.same (P2.out.var PT.out h3 hr_)).newv (o := nodeO 61 0 wd4 (.slice A4 l4.length c4))); have QV := J ((PV.out.same (P2.out.var PV.out h3 hr_)).newv (o := nodeO 61 0 wd4 (.slice A4 l4.length c4))); have HNE2 := J (show w3.heap.size < w9.heap.size from Nat.lt_of_lt_of_le PT.out.zav h3.size); clear h1 h2 h3 h4 hs_ hr_ P2 PN PA PT PV))
   obtain ⟨X4, hX1⟩ : ∃ X1, X1 = w9.alloc (nodeO 61 0 wd4 (.slice A4 l4.length c4)) := ⟨_, rfl⟩; rw [← hX1] at Q2 QN QT QV; change Code.wp Try.prog _ _ _ (w9.alloc (nodeO 61 0 wd4 (.slice A4 l4.length c4)))
   rw [← hX1]; clear hX1; obtain ⟨aj, haj⟩ : ∃ aj, aj = hd lt ai + 1 := ⟨_, rfl⟩; have hajl : aj ≤ lt.length := by have := HLI.out; omega
   have haji : ai < aj := by have := HGI.out; omega
   have n_ := J (QN.out.more (N' := 40 * (ai - a) - 18 + (aj - ai)) (by have := HGI.out; omega))
   rw [← haj] at Q2; clear QN haj; have QN := n_; clear n_; have HKC := J (za5 g A c lt aj X4 Q2.out.ps); obtain ⟨q3, hq3⟩ : ∃ q3, q3 = cu lt aj := ⟨_, rfl⟩; rw [← hq3] at HKC; have HQ3 := J hq3; clear hq3; obtain ⟨rr, hrr⟩ := expr_tot q3; have HRR := J hrr; clear hrr; cases rr with
   | false =>
    go_upto_region 9 with (first | (go_at_call 21; refine HKC.out.mono ?_; rintro e w10 ⟨rfl, hb2⟩; have T2 := J (Q2.out.below hb2); have TN := J (QN.out.below hb2); have TT := J (QT.out.below hb2); have TV := J (QV.out.below hb2); clear hb2 Q2 QN QT QV HKC) | (go_at_call 59; refine (zaE.calls _ _ _ HRR.out).mono ?_; rintro e w11 ⟨rfl, hd2⟩; have hb2 := hd2.below; clear hd2; have U2 := J (T2.out.below hb2); have UN := J (TN.out.below hb2); have UT := J (TT.out.below hb2); have UV := J (TV.out.below hb2); clear hb2 T2 TN TT TV))
    obtain ⟨x0, x1, x2, x3⟩ := UN.out.cells; go_upto_region 10 with (go_at_call 72; refine (zbW g A c lt aj W.heap.size (oky (oky okx w3.heap.size) w9.heap.size) w11 61 0 wd4 _ l4 (40 * (ai - a) - 18 + (aj - ai)) 60 q9 U2.out.ps UN.out.nv U2.out.fr.size (fun q hq => U2.out.hg q (U2.out.sub q hq)) U2.out.fresh qz).mono ?_; rintro e w12 ⟨wdq, uq, lq, rfl, h1, h2, h3, h4⟩; obtain ⟨Aq, cq, rfl, _, _⟩ := Kd.zaL h2.row; have hp_ := UN.out.vi.same (U2.out.var UN.out.vi h3 (fun q hq => UN.out.nv.row.1 q hq)); have R2 := J ((U2.out.ext UN.out h1 h3).put (k := 61) (w := 0) (wd := wdq) (u := .slice Aq lq.length cq) hp_); have RN := J (NI.put hp_ h2 (zaF UN.out.near U2.out.fr.size h4)); have hv_ := UT.out.same (U2.out.var UT.out h3 (fun q hq => UN.out.nv.row.1 q hq)); have RT := J (hv_.put (p := w9.heap.size) (k := 61) (w := 0) (wd := wdq) (u := .slice Aq lq.length cq) (fun e_ => Q1)); clear hv_; have hv_ := UV.out.same (U2.out.var UV.out h3 (fun q hq => UN.out.nv.row.1 q hq)); have RV := J (hv_.put (p := w9.heap.size) (k := 61) (w := 0) (wd := wdq) (u := .slice Aq lq.length cq) (fun e_ => Q1)); clear hv_; obtain ⟨z0, z1, z2, z3, hz_⟩ := hp_.at_; have f0 := zab hz_ 0; have f1 := zab hz_ 1; have f2 := zab hz_ 2; have f3 := zab hz_ 3; obtain ⟨⟨d0, d1, d2, d3⟩, dl⟩ := zaB hz_; clear h1 h2 h3 h4 hp_ hz_ x0 x1 x2 x3 U2 UN UT UV)
    obtain ⟨X7, hX1⟩ : ∃ X1, X1 = putN w12 w9.heap.size 61 0 wdq (.slice Aq lq.length cq) := ⟨_, rfl⟩; rw [← hX1] at R2 RN RT RV; simp only [putN] at hX1; rw [← hX1]; clear hX1 f0 f1 f2 f3 d0 d1 d2 d3 dl; obtain ⟨x0, x1, x2, x3⟩ := RN.out.cells; have V2 := J (R2.out.put (k := 61) (w := 0) (wd := wdq) (u := .slice Aq lq.length cq) RT.out); have VN := J (NI.put RT.out RN.out.nv RN.out.near); have VV := J (RV.out.put (p := w3.heap.size) (k := 61) (w := 0) (wd := wdq) (u := .slice Aq lq.length cq) (fun e_ => Q1))
    obtain ⟨z0, z1, z2, z3, hz_⟩ := RT.out.at_; have f0 := zab hz_ 0; have f1 := zab hz_ 1; have f2 := zab hz_ 2; have f3 := zab hz_ 3; obtain ⟨⟨d0, d1, d2, d3⟩, dl⟩ := zaB hz_
    clear hz_ R2 RN RT RV; go_wp2_with fail
    obtain ⟨X8, hX1⟩ : ∃ X1, X1 = putN X7 w3.heap.size 61 0 wdq (.slice Aq lq.length cq) := ⟨_, rfl⟩; rw [← hX1] at V2 VN VV; simp only [putN] at hX1; rw [← hX1]; clear hX1 f0 f1 f2 f3 d0 d1 d2 d3 dl x0 x1 x2 x3; go_roundg (lt.length - aj)
    case measure => have := HK.out; omega
    case rel => exact ⟨aj, 61, 0, wdq, _, lq, q9, hajl, ⟨rfl⟩, ⟨V2.out.okx HM1.out (fun q hq => (V2.out.fresh q hq).1)⟩, ⟨(VN.out.okx (fun q hq => hq.1) HM3.out).more q9⟩, ⟨VV.out.okx HM4.out⟩⟩
   | true =>
    have HLJ := J (cu_lt (l := lt) (a := aj) (by rw [← HQ3.out]; exact expr_ne HRR.out))
    have HGJ := J (hd_ge lt aj); go_upto_region 7 with (first | (go_at_call 21; refine HKC.out.mono ?_; rintro e w10 ⟨rfl, hb2⟩; have T2 := J (Q2.out.below hb2); have TN := J (QN.out.below hb2); have TT := J (QT.out.below hb2); have TV := J (QV.out.below hb2); clear hb2 Q2 QN QT QV HKC) | (go_at_call 59; refine (zaE.calls _ _ _ HRR.out).mono ?_; rintro e w11 ⟨rfl, hd2⟩; have hb2 := hd2.below; clear hd2; have U2 := J (T2.out.below hb2); have UN := J (TN.out.below hb2); have UT := J (TT.out.below hb2); have UV := J (TV.out.below hb2); clear hb2 T2 TN TT TV))
    obtain ⟨x0, x1, x2, x3⟩ := UN.out.cells; go_upto_region 8 with (go_at_call 23; refine (zbU g A c lt HTO.out aj W.heap.size (oky (oky okx w3.heap.size) w9.heap.size) w11 61 0 wd4 _ l4 (40 * (ai - a) - 18 + (aj - ai)) U2.out.ps UN.out.nv U2.out.fr.size (fun q hq => U2.out.hg q (U2.out.sub q hq)) U2.out.fresh (by have := HLEN.out; have := HLJ.out; omega)).mono ?_; rintro e w12 ⟨wd5, u5, l5, rfl, h1, h2, h3, h4⟩; obtain ⟨A5, c5, rfl, _, _⟩ := Kd.zaL h2.row; have hp_ := UN.out.vi.same (U2.out.var UN.out.vi h3 (fun q hq => UN.out.nv.row.1 q hq)); have R2 := J ((U2.out.ext UN.out h1 h3).put (k := 61) (w := 0) (wd := wd5) (u := .slice A5 l5.length c5) hp_); have RN := J (NI.put hp_ h2 (zaF UN.out.near U2.out.fr.size h4)); have hv_ := UT.out.same (U2.out.var UT.out h3 (fun q hq => UN.out.nv.row.1 q hq)); have RT := J (hv_.put (p := w9.heap.size) (k := 61) (w := 0) (wd := wd5) (u := .slice A5 l5.length c5) (fun e_ => Q1)); clear hv_; have hv_ := UV.out.same (U2.out.var UV.out h3 (fun q hq => UN.out.nv.row.1 q hq)); have RV := J (hv_.put (p := w9.heap.size) (k := 61) (w := 0) (wd := wd5) (u := .slice A5 l5.length c5) (fun e_ => Q1)); clear hv_; obtain ⟨z0, z1, z2, z3, hz_⟩ := hp_.at_; have f0 := zab hz_ 0; have f1 := zab hz_ 1; have f2 := zab hz_ 2; have f3 := zab hz_ 3; obtain ⟨⟨d0, d1, d2, d3⟩, dl⟩ := zaB hz_; clear h1 h2 h3 h4 hp_ hz_ x0 x1 x2 x3 U2 UN UT UV)
    obtain ⟨X5, hX1⟩ : ∃ X1, X1 = putN w12 w9.heap.size 61 0 wd5 (.slice A5 l5.length c5) := ⟨_, rfl⟩; rw [← hX1] at R2 RN RT RV; simp only [putN] at hX1; rw [← hX1]; clear hX1 f0 f1 f2 f3 d0 d1 d2 d3 dl; obtain ⟨N5, hN5⟩ : ∃ N5, N5 = 40 * (ai - a) - 18 + (aj - ai) + (hd lt aj - aj) := ⟨_, rfl⟩; rw [← hN5] at RN; have HN5 := J hN5; clear hN5; have HSZ := J (show N5 + 40 * (lt.length - hd lt aj) ≤ 899990 by have := HN5.out; have := HLJ.out; have := HGJ.out; have := HLEN.out; omega)
    have HBW := J (Nat.le_refl W.heap.size); have RO := J RN.out.vi; have hwj : IntKind.i64.wrap (j + 1) = j + 1 := IntWalk.i64_in _ q9
    have D2 := J (R2.out.below (Y := X5.drew) (Below.refl _ _).drew); have DN := J (RN.out.below (Y := X5.drew) (Below.refl _ _).drew); have DV := J (RO.out.below (Y := X5.drew) (Below.refl _ _).drew); have DYT := J (RT.out.below (Y := X5.drew) (Below.refl _ _).drew); have DYV := J (RV.out.below (Y := X5.drew) (Below.refl _ _).drew); have HS0 := J DN.out.cells; clear R2 RN RO RT RV; refine wp_region_noPanic (zba [0, 1, 2, 3, 4, 5] (fun W' => W'.cell? ⟨w9.heap.size, 0, none⟩ = some (.int .u8 61) ∧ W'.cell? ⟨w9.heap.size, 1, none⟩ = some (.int .u8 0) ∧ W'.cell? ⟨w9.heap.size, 2, none⟩ = some (.int .i64 wd5) ∧ W'.cell? ⟨w9.heap.size, 3, none⟩ = some (.slice A5 l5.length c5)) qb ?_)
    refine zah 0 rfl HS0.out (fun _ h => qj) ?_
    simp only [Act.put, zai]; refine zah 1 rfl HS0.out (fun _ h => qj) ?_
    simp only [Act.put, zai]; refine zah 2 rfl HS0.out (fun _ h => qj) ?_
    simp only [Act.put, zai]; refine zah 3 rfl HS0.out (fun _ h => qj) ?_
    simp only [Act.put, zai]; refine zaI (i := 4) rfl qb (fun K hK => ?_)
    go_simp
    refine (HLA.out (hd lt aj) (by have := HGJ.out; omega) X5.drew D2.out.ps (by rw [hd_hd]; exact HLJ.out)).mono ?_
    rintro e w5 ⟨a9, hlo, hhi, k9, w9_, wd9, u9, l9, rfl, p1, p2, p3⟩
    obtain ⟨kA, kc, rfl, _, _⟩ := Kd.zaL p2.row; have E2 := J (D2.out.ret p1 p3); have EN := J (NI.ret D2.out DN.out p3); have EV := J (VI.ret D2.out DV.out p3); have EYT := J (VI.ret D2.out DYT.out p3); have EYV := J (VI.ret D2.out DYV.out p3); have HKID := J (kid_nv (b := W.heap.size) (okx := (oky (oky okx w3.heap.size) w9.heap.size)) p2 (Nat.le_trans HBW.out D2.out.fr.size) D2.out.fresh (fun q hq => Kd.N_lt DN.out.nv.row q hq))
    have HS1 := J EN.out.cells; clear p1 p2 p3; refine hK.out _ _ (fun _ => HS1.out) (fun _ => ?_)
    clear hK K; try simp only [Act.put, zai]
    refine zaI (i := 5) rfl qb (fun K hK => ?_)
    go_simp
    refine (zb0 W.heap.size (oky (oky okx w3.heap.size) w9.heap.size) w5 61 0 wd5 _ l5 N5 _ _ _ _ _ _ EN.out.nv (Nat.le_trans HBW.out E2.out.fr.size) E2.out.fresh HKID.out qG).mono ?_
    rintro e w6 ⟨wd6, u6, l6, rfl, h1, h2, h3⟩
    obtain ⟨A6, c6, rfl, _, _⟩ := Kd.zaL h1.row; have F2 := J (E2.out.ext EN.out (E2.out.addps EN.out h2) (Fr.zaX h2)); have hv_ := EV.out.same (E2.out.var EV.out (Fr.zaX h2) (fun q hq => EN.out.nv.row.1 q hq))
    have FN := J (EN.out.vi.same (E2.out.var EN.out.vi (Fr.zaX h2) (fun q hq => EN.out.nv.row.1 q hq)))
    have HS2 := J ((zaB ((E2.out.var EN.out.vi (Fr.zaX h2) (fun q hq => EN.out.nv.row.1 q hq)).trans EN.out.box)).1)
    have Y2 := J (F2.out.put (k := 61) (w := 0) (wd := wd6) (u := .slice A6 l6.length c6) hv_); have YN := J (NI.put hv_ h1 (zaF EN.out.near E2.out.fr.size h3)); have YT := J ((EYT.out.same (E2.out.var EYT.out (Fr.zaX h2) (fun q hq => EN.out.nv.row.1 q hq))).put (p := w9.heap.size) (k := 61) (w := 0) (wd := wd6) (u := .slice A6 l6.length c6) (fun e_ => Q1))
    have YV := J ((EYV.out.same (E2.out.var EYV.out (Fr.zaX h2) (fun q hq => EN.out.nv.row.1 q hq))).put (p := w9.heap.size) (k := 61) (w := 0) (wd := wd6) (u := .slice A6 l6.length c6) (fun e_ => Q1))
    obtain ⟨z0, z1, z2, z3, hz_⟩ := hv_.at_; have HZ := J hz_; have f0 := zab hz_ 0; have f1 := zab hz_ 1; have f2 := zab hz_ 2; have f3 := zab hz_ 3; obtain ⟨⟨d0, d1, d2, d3⟩, dl⟩ := zaB hz_
    clear h1 h2 h3 hv_ hz_; refine hK.out _ _ (fun _ => HS2.out) (fun _ => ?_)
    clear hK K; try simp only [Act.put, zai]
    refine zaI (i := 6) rfl qb (fun K hK => ?_)
    go_simp
    refine hK.out _ _ (fun h => Bool.noConfusion (show false = true from h)) (fun _ => ?_)
    clear hK K; try simp only [Act.put, zai]
    refine za3 qb (NoPanic.normal ?_) _
    obtain ⟨X6, hX1⟩ : ∃ X1, X1 = putN w6 w9.heap.size 61 0 wd6 (.slice A6 l6.length c6) := ⟨_, rfl⟩; rw [← hX1] at Y2 YN YT YV; simp only [putN] at hX1; rw [← hX1]; clear hX1 f0 f1 f2 f3 d0 d1 d2 d3 dl; obtain ⟨x0, x1, x2, x3⟩ := YN.out.cells; have V2 := J (Y2.out.put (k := 61) (w := 0) (wd := wd6) (u := .slice A6 l6.length c6) YT.out); have VN := J (NI.put YT.out YN.out.nv YN.out.near); have VV := J (YV.out.put (p := w3.heap.size) (k := 61) (w := 0) (wd := wd6) (u := .slice A6 l6.length c6) (fun e_ => Q1))
    obtain ⟨z0, z1, z2, z3, hz_⟩ := YT.out.at_; have f0 := zab hz_ 0; have f1 := zab hz_ 1; have f2 := zab hz_ 2; have f3 := zab hz_ 3; obtain ⟨⟨d0, d1, d2, d3⟩, dl⟩ := zaB hz_
    clear hz_ Y2 YN YT YV; go_wp2_with fail
    obtain ⟨X8, hX1⟩ : ∃ X1, X1 = putN X6 w3.heap.size 61 0 wd6 (.slice A6 l6.length c6) := ⟨_, rfl⟩; rw [← hX1] at V2 VN VV; simp only [putN] at hX1; rw [← hX1]; clear hX1 f0 f1 f2 f3 d0 d1 d2 d3 dl x0 x1 x2 x3; go_roundg (lt.length - a9)
    case measure => have := HK.out; have := HGJ.out; omega
    case rel => exact ⟨a9, 61, 0, wd6, _, l6, by have := HGJ.out; omega, hhi, ⟨rfl⟩, ⟨V2.out.okx HM1.out (fun q hq => (V2.out.fresh q hq).1)⟩, ⟨(VN.out.okx (fun q hq => hq.1) HM3.out).more (by have := HN5.out; have := HGJ.out; omega)⟩, ⟨VV.out.okx HM4.out⟩⟩
  ·have drj : (r2 == j) = false := by simp [hrj]
   clear hrj HR0; go_upto_region 11 with (first | (go_at_call 21; refine HKC.out.mono ?_; rintro e w6 ⟨rfl, hb2⟩; have N2 := J (M2.out.below hb2); have NN := J (MN.out.below hb2); have NV_ := J (MV.out.below hb2); clear hb2 M2 MN MV HKC) | (go_at_call 78; refine (zaA.calls 3 _ _ _ HLV.out).mono ?_; rintro e w7 ⟨rfl, hd2⟩; have hb2 := hd2.below; clear hd2; have O2 := J (N2.out.below hb2); have ON := J (NN.out.below hb2); have OV := J (NV_.out.below hb2); clear hb2 N2 NN NV_))
   obtain ⟨x0, x1, x2, x3⟩ := ON.out.cells; have HEND := J (O2.out.done OV.out ON.out.nv ON.out.near); obtain ⟨z0, z1, z2, z3, hz_⟩ := OV.out.at_; have HZ := J hz_; have f0 := zab hz_ 0; have f1 := zab hz_ 1; have f2 := zab hz_ 2; have f3 := zab hz_ 3; obtain ⟨⟨d0, d1, d2, d3⟩, dl⟩ := zaB hz_
   clear hz_; go_wp2
   refine bodyPost_ret (zaM (r := .cell 4 24) rfl (.cell (W.heap.size) 24 _ (0, 0) _ rfl (za7 HZ.out) Try.underlying24 rfl qb .nil)) rfl ?_
   refine ⟨ai, q9, hail, ?_⟩
   obtain ⟨wd8, u8, l8, e1, e2, e3, e4, e5⟩ := HEND.out; exact ⟨_, _, wd8, u8, l8, e1, e2, e3.more q9, e4⟩
theorem args_calls (g : Nat) (A : Option Addr) (c : Nat) (lt : List S40) (htk : TkOk lt) (a : Nat) (hexp : ∀ a1, a < a1 → CExpr g A c lt a1) (W : World) (hP : PS W g A c lt a) (hlt : hd lt a < lt.length) :
  Calls Try.prog 82 #[.pointer (some ⟨g, 0, none⟩)] W fun e W' => ∃ a', a < a' ∧ a' ≤ lt.length ∧ Ret g A c lt W a' (40 * (a' - a) - 20) e W' := by
 have HTO := J htk; have HEXP := J hexp; have HLT := J hlt; have HLEN := J hP.len; clear htk hexp hlt; have hu := Try.underlying24; go_enter Try.func82, Try.ntmps82
 go_upto_region 1 with (fail)
 obtain ⟨X, hX⟩ : ∃ X, X = W.alloc (nodeO 0 0 0 (.slice none 0 0)) := ⟨_, rfl⟩; obtain ⟨h2, hv⟩ := S2.start1 hP hX; change Code.wp Try.prog _ _ _ (W.alloc (nodeO 0 0 0 (.slice none 0 0)))
 rw [← hX]; generalize oky (fun q => W.heap.size ≤ q) W.heap.size = okx at h2 hv
 have I2 := J h2; have IV := J hv; clear h2 hv hX hP; go_upto_region 2 with (go_at_call 47; refine (zbq g A c lt HTO.out a W.heap.size okx X 64 0 0 (.slice none 0 0) [] 1 I2.out.ps (NV.leaf q9 q9 q9 (Nat.le_refl _)) I2.out.fr.size (fun q hq => I2.out.hg q (I2.out.sub q hq)) I2.out.fresh HLT.out Q0).mono ?_; rintro e w3 ⟨wd1, u1, l1, rfl, h1, h2, h3, h4⟩; obtain ⟨A1, c1, rfl, _, _⟩ := Kd.zaL h2.row; have hs_ := I2.out.ret h1 h3; have J2 := J (hs_.newv (o := nodeO 64 0 wd1 (.slice A1 l1.length c1))); have JN := J (NI.new_ (W := W) (r := none) hs_.fr.size h2 (zaF (v := .slice none 0 0) (.inl rfl) I2.out.fr.size h4)); have JV := J ((VI.ret I2.out IV.out h3).newv (o := nodeO 64 0 wd1 (.slice A1 l1.length c1))); have HW3_ := J (show W.heap.size < w3.heap.size from Nat.lt_of_lt_of_le IV.out.zav h3.size); clear h1 h2 h3 h4 hs_ I2 IV)
 have HW3 := J HW3_.out; clear HW3_; obtain ⟨X1, hX1⟩ : ∃ X1, X1 = w3.alloc (nodeO 64 0 wd1 (.slice A1 l1.length c1)) := ⟨_, rfl⟩; rw [← hX1] at J2 JN JV; change Code.wp Try.prog _ _ _ (w3.alloc (nodeO 64 0 wd1 (.slice A1 l1.length c1)))
 rw [← hX1]; clear hX1; obtain ⟨a1, ha1⟩ : ∃ a1, a1 = hd lt a + 1 := ⟨_, rfl⟩; have hge := hd_ge lt a; have hl1 : a < a1 ∧ a1 ≤ lt.length := ⟨q9, by have := HLT.out; omega⟩
 obtain ⟨hl1a, hl1b⟩ := hl1; have n_ := J (JN.out.more (N' := 40 * (a1 - a) - 38) q9)
 rw [← ha1] at J2; clear JN ha1 hge; have JN := n_; clear n_; have HKC := J (za5 g A c lt a1 X1 J2.out.ps); obtain ⟨q, hq⟩ : ∃ q, q = cu lt a1 := ⟨_, rfl⟩; rw [← hq] at HKC; clear hq; obtain ⟨rr, hrr⟩ := expr_tot q; have HRR := J hrr; clear hrr; cases rr with
 | false =>
  go_upto_region 7 with (first | (go_at_call 21; refine HKC.out.mono ?_; rintro e w4 ⟨rfl, hb2⟩; have I1 := J (J2.out.below hb2); have IN1 := J (JN.out.below hb2); have IV1 := J (JV.out.below hb2); clear hb2 J2 JN JV HKC) | (go_at_call 59; refine (zaE.calls _ _ _ HRR.out).mono ?_; rintro e w5 ⟨rfl, hd2⟩; have hb2 := hd2.below; clear hd2; have K2 := J (I1.out.below hb2); have KN := J (IN1.out.below hb2); have KV := J (IV1.out.below hb2); clear hb2 I1 IN1 IV1))
  obtain ⟨x0, x1, x2, x3⟩ := KN.out.cells; go_wp2_with (go_at_call 60; refine (zbA g A c lt HTO.out a1 W.heap.size (oky okx w3.heap.size) w5 64 0 wd1 _ l1 (40 * (a1 - a) - 38) 21 q9 K2.out.ps KN.out.nv K2.out.fr.size (fun q hq => K2.out.hg q (K2.out.sub q hq)) K2.out.fresh qz).mono ?_; rintro e w6 ⟨b3, b3a, b3l, wd3, u3, l3, rfl, h1, h2, h3, h4⟩; obtain ⟨A3, c3, rfl, _, _⟩ := Kd.zaL h2.row; have hv_ := KV.out.same (K2.out.var KV.out h3 (fun q hq => KN.out.nv.row.1 q hq)); have HEND := J ((K2.out.ext KN.out h1 h3).done hv_ h2 (zaF KN.out.near K2.out.fr.size h4)); obtain ⟨z0, z1, z2, z3, hz_⟩ := hv_.at_; have HZ := J hz_; have f0 := zab hz_ 0; have f1 := zab hz_ 1; have f2 := zab hz_ 2; have f3 := zab hz_ 3; obtain ⟨⟨d0, d1, d2, d3⟩, dl⟩ := zaB hz_; clear h1 h2 h3 h4 hv_ hz_ x0 x1 x2 x3)
  refine bodyPost_ret (zaM (r := .cell 2 24) rfl (.cell (W.heap.size) 24 _ (0, 0) _ rfl (za7 HZ.out) Try.underlying24 rfl qb .nil)) rfl ?_
  refine ⟨b3, q9, b3l, ?_⟩
  obtain ⟨wd8, u8, l8, e1, e2, e3, e4, e5⟩ := HEND.out; exact ⟨_, _, wd8, u8, l8, e1, e2, e3.more q9, e4⟩
 | true =>
  go_upto_region 3 with (first | (go_at_call 21; refine HKC.out.mono ?_; rintro e w4 ⟨rfl, hb2⟩; have I1 := J (J2.out.below hb2); have IN1 := J (JN.out.below hb2); have IV1 := J (JV.out.below hb2); clear hb2 J2 JN JV HKC) | (go_at_call 59; refine (zaE.calls _ _ _ HRR.out).mono ?_; rintro e w5 ⟨rfl, hd2⟩; have hb2 := hd2.below; clear hd2; have K2 := J (I1.out.below hb2); have KN := J (IN1.out.below hb2); have KV := J (IV1.out.below hb2); clear hb2 I1 IN1 IV1))
  obtain ⟨x0, x1, x2, x3⟩ := KN.out.cells; go_wp2_with (go_at_call 61; refine (HEXP.out a1 hl1a W.heap.size (oky okx w3.heap.size) w5 64 0 wd1 _ l1 (40 * (a1 - a) - 38) K2.out.ps KN.out.nv K2.out.fr.size (fun q hq => K2.out.hg q (K2.out.sub q hq)) K2.out.fresh qz).mono ?_; rintro e w6 ⟨b2, b2a, b2l, wd2, u2, l2, rfl, h1, h2, h3, h4⟩; obtain ⟨A2, c2, rfl, _, _⟩ := Kd.zaL h2.row; have hp_ := KN.out.vi.same (K2.out.var KN.out.vi h3 (fun q hq => KN.out.nv.row.1 q hq)); have L2 := J ((K2.out.ext KN.out h1 h3).put (k := 64) (w := 0) (wd := wd2) (u := .slice A2 l2.length c2) hp_); have LN := J (NI.put hp_ h2 (zaF KN.out.near K2.out.fr.size h4)); have hv_ := KV.out.same (K2.out.var KV.out h3 (fun q hq => KN.out.nv.row.1 q hq)); have LV := J (hv_.put (p := w3.heap.size) (k := 64) (w := 0) (wd := wd2) (u := .slice A2 l2.length c2) (fun e_ => qV)); clear hv_; obtain ⟨z0, z1, z2, z3, hz_⟩ := hp_.at_; have f0 := zab hz_ 0; have f1 := zab hz_ 1; have f2 := zab hz_ 2; have f3 := zab hz_ 3; obtain ⟨⟨d0, d1, d2, d3⟩, dl⟩ := zaB hz_; clear h1 h2 h3 h4 hp_ hz_ x0 x1 x2 x3 K2 KN KV)
  obtain ⟨X2, hX1⟩ : ∃ X1, X1 = putN w6 w3.heap.size 64 0 wd2 (.slice A2 l2.length c2) := ⟨_, rfl⟩; rw [← hX1] at L2 LN LV; simp only [putN] at hX1; rw [← hX1]; clear hX1 f0 f1 f2 f3 d0 d1 d2 d3 dl; have n_ := J (LN.out.more (N' := 40 * (b2 - a) - 37) q9)
  clear LN; have LN := n_; clear n_; go_loopg [] (lt.length - b2) (fun kq w' => ∃ (ai : Nat) (wdi : Int) (vi : Value) (li : List S24), a < ai ∧ ai ≤ lt.length ∧ zaa (kq = lt.length - ai) ∧ zaa (S2 g A c lt (fun q => W.heap.size ≤ q) (oky okx w3.heap.size) W none w' ai) ∧ zaa (NI W.heap.size (oky okx w3.heap.size) W none w' w3.heap.size 64 0 wdi vi li (40 * (ai - a) - 37)) ∧ zaa (VI (oky okx w3.heap.size) W w' W.heap.size))
  case atStart => exact ⟨b2, wd2, _, l2, q9, b2l, ⟨rfl⟩, L2, LN, LV⟩
  case round =>
   obtain ⟨ai, wdi, vi, li, hai, hail, HK, M2, MN, MV⟩ := hrel; obtain ⟨Ai, ci, rfl, _, _⟩ := Kd.zaL MN.out.nv.row; have HKC := J (za5 g A c lt ai wr M2.out.ps); obtain ⟨q2, hq2⟩ : ∃ q2, q2 = cu lt ai := ⟨_, rfl⟩; rw [← hq2] at HKC; have HQ2 := J hq2; clear hq2; by_cases h24 : q2 = 24
   ·have d24 : (q2 == 24) = true := by simp [h24]
    have HLI := J (cu_lt (l := lt) (a := ai) (by rw [← HQ2.out, h24]; omega))
    clear h24; go_upto_region 5 with (go_at_call 21; refine HKC.out.mono ?_; rintro e w7 ⟨rfl, hb2⟩; have O2 := J (M2.out.below hb2); have ON := J (MN.out.below hb2); have OV := J (MV.out.below hb2); clear hb2 M2 MN MV HKC)
    obtain ⟨x0, x1, x2, x3⟩ := ON.out.cells; go_upto_region 6 with (go_at_call 47; refine (zbq g A c lt HTO.out ai W.heap.size (oky okx w3.heap.size) w7 64 0 wdi _ li (40 * (ai - a) - 37) O2.out.ps ON.out.nv O2.out.fr.size (fun q hq => O2.out.hg q (O2.out.sub q hq)) O2.out.fresh HLI.out Qk).mono ?_; rintro e w8 ⟨wd4, u4, l4, rfl, h1, h2, h3, h4⟩; obtain ⟨A4, c4, rfl, _, _⟩ := Kd.zaL h2.row; have hp_ := ON.out.vi.same (O2.out.var ON.out.vi h3 (fun q hq => ON.out.nv.row.1 q hq)); have Q2 := J ((O2.out.ext ON.out h1 h3).put (k := 64) (w := 0) (wd := wd4) (u := .slice A4 l4.length c4) hp_); have QN := J (NI.put hp_ h2 (zaF ON.out.near O2.out.fr.size h4)); have hv_ := OV.out.same (O2.out.var OV.out h3 (fun q hq => ON.out.nv.row.1 q hq)); have QV := J (hv_.put (p := w3.heap.size) (k := 64) (w := 0) (wd := wd4) (u := .slice A4 l4.length c4) (fun e_ => qV)); clear hv_; obtain ⟨z0, z1, z2, z3, hz_⟩ := hp_.at_; have f0 := zab hz_ 0; have f1 := zab hz_ 1; have f2 := zab hz_ 2; have f3 := zab hz_ 3; obtain ⟨⟨d0, d1, d2, d3⟩, dl⟩ := zaB hz_; clear h1 h2 h3 h4 hp_ hz_ x0 x1 x2 x3 O2 ON OV)
    obtain ⟨X4, hX1⟩ : ∃ X1, X1 = putN w8 w3.heap.size 64 0 wd4 (.slice A4 l4.length c4) := ⟨_, rfl⟩; rw [← hX1] at Q2 QN QV; simp only [putN] at hX1; rw [← hX1]; clear hX1 f0 f1 f2 f3 d0 d1 d2 d3 dl; obtain ⟨aj, haj⟩ : ∃ aj, aj = hd lt ai + 1 := ⟨_, rfl⟩; have hge2 := hd_ge lt ai; have hajl : aj ≤ lt.length := by have := HLI.out; omega
    have haji : ai < aj := by omega
    have n_ := J (QN.out.more (N' := 40 * (ai - a) - 37 + (aj - ai)) q9)
    rw [← haj] at Q2; clear QN haj hge2; have QN := n_; clear n_; obtain ⟨x0, x1, x2, x3⟩ := QN.out.cells; go_wp2_with (go_at_call 61; refine (HEXP.out aj q9 W.heap.size (oky okx w3.heap.size) X4 64 0 wd4 _ l4 (40 * (ai - a) - 37 + (aj - ai)) Q2.out.ps QN.out.nv Q2.out.fr.size (fun q hq => Q2.out.hg q (Q2.out.sub q hq)) Q2.out.fresh qz).mono ?_; rintro e w9 ⟨b5, b5a, b5l, wd5, u5, l5, rfl, h1, h2, h3, h4⟩; obtain ⟨A5, c5, rfl, _, _⟩ := Kd.zaL h2.row; have hp_ := QN.out.vi.same (Q2.out.var QN.out.vi h3 (fun q hq => QN.out.nv.row.1 q hq)); have R2 := J ((Q2.out.ext QN.out h1 h3).put (k := 64) (w := 0) (wd := wd5) (u := .slice A5 l5.length c5) hp_); have RN := J (NI.put hp_ h2 (zaF QN.out.near Q2.out.fr.size h4)); have hv_ := QV.out.same (Q2.out.var QV.out h3 (fun q hq => QN.out.nv.row.1 q hq)); have RV := J (hv_.put (p := w3.heap.size) (k := 64) (w := 0) (wd := wd5) (u := .slice A5 l5.length c5) (fun e_ => qV)); clear hv_; obtain ⟨z0, z1, z2, z3, hz_⟩ := hp_.at_; have f0 := zab hz_ 0; have f1 := zab hz_ 1; have f2 := zab hz_ 2; have f3 := zab hz_ 3; obtain ⟨⟨d0, d1, d2, d3⟩, dl⟩ := zaB hz_; clear h1 h2 h3 h4 hp_ hz_ x0 x1 x2 x3 Q2 QN QV)
    obtain ⟨X5, hX1⟩ : ∃ X1, X1 = putN w9 w3.heap.size 64 0 wd5 (.slice A5 l5.length c5) := ⟨_, rfl⟩; rw [← hX1] at R2 RN RV; simp only [putN] at hX1; rw [← hX1]; clear hX1 f0 f1 f2 f3 d0 d1 d2 d3 dl; go_roundg (lt.length - b5)
    case measure => have := HK.out; omega
    case rel => exact ⟨b5, wd5, _, l5, q9, b5l, ⟨rfl⟩, R2, ⟨RN.out.more q9⟩, RV⟩
   ·have d24 : (q2 == 24) = false := by simp [h24]
    clear h24; go_upto_region 7 with (go_at_call 21; refine HKC.out.mono ?_; rintro e w7 ⟨rfl, hb2⟩; have O2 := J (M2.out.below hb2); have ON := J (MN.out.below hb2); have OV := J (MV.out.below hb2); clear hb2 M2 MN MV HKC)
    obtain ⟨x0, x1, x2, x3⟩ := ON.out.cells; go_wp2_with (go_at_call 60; refine (zbA g A c lt HTO.out ai W.heap.size (oky okx w3.heap.size) w7 64 0 wdi _ li (40 * (ai - a) - 37) 21 q9 O2.out.ps ON.out.nv O2.out.fr.size (fun q hq => O2.out.hg q (O2.out.sub q hq)) O2.out.fresh qz).mono ?_; rintro e w8 ⟨b3, b3a, b3l, wd3, u3, l3, rfl, h1, h2, h3, h4⟩; obtain ⟨A3, c3, rfl, _, _⟩ := Kd.zaL h2.row; have hv_ := OV.out.same (O2.out.var OV.out h3 (fun q hq => ON.out.nv.row.1 q hq)); have HEND := J ((O2.out.ext ON.out h1 h3).done hv_ h2 (zaF ON.out.near O2.out.fr.size h4)); obtain ⟨z0, z1, z2, z3, hz_⟩ := hv_.at_; have HZ := J hz_; have f0 := zab hz_ 0; have f1 := zab hz_ 1; have f2 := zab hz_ 2; have f3 := zab hz_ 3; obtain ⟨⟨d0, d1, d2, d3⟩, dl⟩ := zaB hz_; clear h1 h2 h3 h4 hv_ hz_ x0 x1 x2 x3)
    refine bodyPost_ret (zaM (r := .cell 2 24) rfl (.cell (W.heap.size) 24 _ (0, 0) _ rfl (za7 HZ.out) Try.underlying24 rfl qb .nil)) rfl ?_
    refine ⟨b3, q9, b3l, ?_⟩
    obtain ⟨wd8, u8, l8, e1, e2, e3, e4, e5⟩ := HEND.out; exact ⟨_, _, wd8, u8, l8, e1, e2, e3.more q9, e4⟩
end Go.Proofs.Ytobgkpnigjfhmaa.H
