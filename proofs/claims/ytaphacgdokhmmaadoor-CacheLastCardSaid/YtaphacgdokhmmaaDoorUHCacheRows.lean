/- Three rows of a law's own beside a cache: texts, texts, values as they are. What a round keeps of them. -/
import Derived.Test.YtaphacgdokhmmaaDoorUHCacheApart
set_option linter.unusedVariables false
set_option linter.unusedSimpArgs false
namespace Go.Proofs.YtaphacgdokhmmaaDoor.H
open Go.RowKit Go.Shelf Go.Proofs.YtaphacgdokhmmaaDoorW.PrintWords Go.Proofs.YtaphacgdokhmmaaDoorW.PrintLast Go.Proofs.YtaphacgdokhmmaaDoorW.PrintMore
theorem info34 : (Tryd.prog.info? 34).map (fun i => (i.zero, i.size, i.bytes)) = some (some (.slice none 0 0), 1, 24) := by kernel_rfl
section
variable {α : Type} {d : Kd α} {e base : Nat} {W W' : World} {Fp Fp' : Nat → Prop} {v : Value} {L : List α}
theorem row_keep (hE : d.E = []) (h : d.R e W base (Out Fp W) v L) (hk : ∀ q, v.ownBlock = some q → Out Fp W q → Out Fp' W' q ∧ W'.heap[q]? = W.heap[q]?) : d.R e W' base (Out Fp' W') v L :=
  Kd.R_mono (Kd.R_step (Kd.R_tight hE h) (fun q hq _ => (hk q hq.symm (h.1 q hq.symm)).2)) (fun q hq => (hk q hq.symm (h.1 q hq.symm)).1)
theorem row_type (h : d.R e W base (Out Fp W) v L) {nb t : Nat} {cs : Array Value} (hnb : W.heap[nb]? = some (.cells cs t (0, 0))) (hne : t ≠ e) : v.ownBlock ≠ some nb := fun hk => by
  obtain ⟨cells, hc⟩ := own_typed h.2.choose_spec.1 nb hk
  rw [hnb] at hc
  injection hc with hc
  injection hc with _ hc
  exact hne hc
theorem row_grown (hE : d.E = []) (h : d.R e W base (Out Fp W) v L) {row : Option Nat} (hg : W.grownBy W' row) (hne : ∀ k, v.ownBlock = some k → row ≠ some k) : d.R e W' base (Out Fp W') v L :=
  row_keep hE h (fun q hq ho => ⟨⟨ho.1, Nat.lt_of_lt_of_le ho.2 hg.size⟩, hg.block q ho.2 (fun e => hne q hq e.symm)⟩)
theorem row_app (hE : d.E = []) {W0 : World} {A : Option Addr} {n c t bytes : Nat} {z : Value} (hR : d.R e W base (Out Fp W) (.slice A n c) L) (hs : base ≤ W.heap.size) (hlt : ∀ q, Fp q → q < W.heap.size)
    (ht : Tryd.prog.underlying t = some (.slice e)) (hinfo : (Tryd.prog.info? e).map (fun i => (i.zero, i.size, i.bytes)) = some (some z, d.sz, bytes)) (hzs : z.cells.size = d.sz) (hs0 : 0 < d.sz) (hb0 : 0 < bytes) (hl : (L.length + 1) * bytes ≤ 140737488355328)
    (p : α) (cs : List Value) (nb : Nat) (hnew : W.heap[nb]? = some (.cells cs.toArray e (0, 0))) (hp : ∀ base, d.M W base (fun _ => False) p cs) (hcs : cs.length = d.sz) (h1 : ∀ u ∈ cs, u.oneCell' = true) :
    ∃ g cap w1, (Builtin.append_ #[t, t] t #[.slice A n c, .slice (some ⟨nb, 0, none⟩) 1 1]).run Tryd.prog W = .ok (.slice (some ⟨g, 0, none⟩) (n + 1) cap) w1 ∧
      W.grownBy w1 (Value.slice A n c).ownBlock ∧ ((Value.slice A n c).ownBlock = some g ∨ W.heap.size ≤ g) ∧ n = L.length ∧
      d.R e w1 base (Out Fp w1) (.slice (some ⟨g, 0, none⟩) (n + 1) cap) (L ++ [p]) := by
  obtain ⟨i0, hi, hzz⟩ := Option.map_eq_some_iff.1 hinfo
  simp only [Prod.mk.injEq] at hzz
  obtain ⟨hz0, hz1, hz2⟩ := hzz
  have hn : n = L.length := (Kd.R_reads' hR).1
  obtain ⟨h0, inner, hown, hr⟩ := Kd.R_mono (ok' := fun q => ¬ Fp q) hR (fun q hq => hq.1)
  rw [← hn] at hown
  obtain ⟨v1, w1, hrun, hown1, hg1, hnil, hat⟩ := run_append_own_at (P := Tryd.prog) (w := W) base t t e i0 z d.sz bytes ht hi hz0 hz1 hz2 hzs hs0 _ n inner hown ⟨nb, 0, none⟩ 1 1 cs (by rw [hcs, Nat.one_mul])
    (fun j u hu => by rw [show (⟨nb, 0, none⟩ : Addr).add j = ⟨nb, j, none⟩ by simp [Addr.add, eq_comm], blk_cell hnew j, List.getElem?_toArray]; exact hu) h1
    (by simp only [maxLen]; rw [hn]; have : L.length + 1 ≤ (L.length + 1) * bytes := Nat.le_mul_of_pos_right _ hb0; omega) (by rw [hn]; exact hl) hs
  obtain ⟨g, cap, rfl⟩ : ∃ g cap, v1 = .slice (some ⟨g, 0, none⟩) (n + 1) cap := by
    rcases hown1.2 with ⟨_, h⟩ | ⟨g, cap, cur, h, _⟩
    · omega
    · exact ⟨g, cap, h⟩
  have hat' : (Value.slice (some ⟨g, 0, none⟩) (n + 1) cap).ownBlock = (Value.slice A n c).ownBlock ∨ ∃ b, (Value.slice (some ⟨g, 0, none⟩) (n + 1) cap).ownBlock = some b ∧ W.heap.size ≤ b := hat.imp_right (fun h => ⟨_, h, Nat.le_refl _⟩)
  have hgo : (Value.slice A n c).ownBlock = some g ∨ W.heap.size ≤ g := by
    rcases hat' with h | ⟨b, h, hb⟩
    · exact .inl (by rw [← h]; rfl)
    · simp only [Value.ownBlock, Option.some.injEq] at h
      exact .inr (by omega)
  have hR1 := Kd.R_appended h0 hr (hp base) (fun _ h => h.elim) (fun q hq => fun e => by have := hlt q e; omega) (by rw [← hn]; exact hown1) hg1 hat'
  exact ⟨g, cap, w1, hrun, hg1, hgo, hn, Kd.R_mono (Kd.R_bound hR1) (fun q hq => ⟨hq.1, hq.2.2.1⟩)⟩
end
section
variable {W0 W W' : World} {Fp Fp' : Nat → Prop} {b n n' : Nat} {M M' : ByteArray → List Res}
theorem CW.grown (h : CW W0 W Fp b n M) {row : Option Nat} (hg : W.grownBy W' row) (hr : ∀ k, row = some k → ¬ Fp k ∧ W0.heap.size ≤ k) : CW W0 W' Fp b n M :=
  ⟨h.ci.keep (fun q hq hl => hg.block q hl (fun e => (hr q e.symm).1 hq)), fun q hq => Nat.lt_of_lt_of_le (h.lt q hq) hg.size, h.lo,
    ⟨hg.os.trans h.bel.os, hg.tape.trans h.bel.tape, hg.output.trans h.bel.output, Nat.le_trans h.bel.size hg.size, fun q hq => (hg.block q (Nat.lt_of_lt_of_le hq h.bel.size) (fun e => by have := (hr q e.symm).2; omega)).trans (h.bel.block q hq)⟩⟩
structure LR (W0 W : World) (Fp : Nat → Prop) (b n : Nat) (M : ByteArray → List Res) (vi vm vd : Value) (ids mine : List ByteArray) (dat : List (List Value)) : Prop where
  cw : CW W0 W Fp b n M
  ri : Kd.R Kd.string 9 W W0.heap.size (Out Fp W) vi ids
  rm : Kd.R Kd.string 9 W W0.heap.size (Out Fp W) vm mine
  rd : Kd.R (Kd.raw 1) 34 W W0.heap.size (Out Fp W) vd dat
  im : ∀ k, vi.ownBlock = some k → vm.ownBlock ≠ some k
variable {vi vm vd : Value} {ids mine : List ByteArray} {dat : List (List Value)}
theorem LR.id (h : LR W0 W Fp b n M vi vm vd ids mine dat) : ∀ k, vi.ownBlock = some k → vd.ownBlock ≠ some k := fun k hk => by
  obtain ⟨cells, hc⟩ := own_typed h.ri.2.choose_spec.1 k hk
  exact row_type h.rd hc (by decide)
theorem LR.md (h : LR W0 W Fp b n M vi vm vd ids mine dat) : ∀ k, vm.ownBlock = some k → vd.ownBlock ≠ some k := fun k hk => by
  obtain ⟨cells, hc⟩ := own_typed h.rm.2.choose_spec.1 k hk
  exact row_type h.rd hc (by decide)
theorem LR.start (h : CW W0 W Fp b n M) : LR W0 W Fp b n M (.slice none 0 0) (.slice none 0 0) (.slice none 0 0) [] [] [] :=
  ⟨h, Kd.R_nil _ _ _ _ _, Kd.R_nil _ _ _ _ _, Kd.R_nil _ _ _ _ _, fun k hk => by simp [Value.ownBlock] at hk⟩
theorem LR.nil (h : LR W0 W Fp b n M vi vm vd ids mine dat) : LR W0 W Fp b n M vi (.slice none 0 0) (.slice none 0 0) ids [] [] :=
  ⟨h.cw, h.ri, Kd.R_nil _ _ _ _ _, Kd.R_nil _ _ _ _ _, fun k _ => by simp [Value.ownBlock]⟩
theorem LR.move (h : LR W0 W Fp b n M vi vm vd ids mine dat) (c : CW W0 W' Fp' b n' M') (hk : Keep Fp W Fp' W') : LR W0 W' Fp' b n' M' vi vm vd ids mine dat :=
  ⟨c, row_keep rfl h.ri (fun q _ ho => hk q ho), row_keep rfl h.rm (fun q _ ho => hk q ho), row_keep rfl h.rd (fun q _ ho => hk q ho), h.im⟩
theorem LR.below (h : LR W0 W Fp b n M vi vm vd ids mine dat) (hb : Below W.heap.size W W') : LR W0 W' Fp b n M vi vm vd ids mine dat := h.move (h.cw.below hb) (keep_below hb)
theorem row_own {α : Type} {d : Kd α} {e : Nat} {v : Value} {L : List α} (hR : d.R e W W0.heap.size (Out Fp W) v L) : ∀ k, v.ownBlock = some k → ¬ Fp k ∧ W0.heap.size ≤ k := fun k hk => ⟨(hR.1 k hk).1, own_base hR.2.choose_spec.1 k hk⟩
theorem LR.app_i {A : Option Addr} {m c : Nat} (h : LR W0 W Fp b n M (.slice A m c) vm vd ids mine dat) (hl : ids.length ≤ 100000) (s : ByteArray) (nb : Nat) (hnew : W.heap[nb]? = some (.cells #[.string s] 9 (0, 0))) :
    ∃ g cap w1, (Builtin.append_ #[56, 56] 56 #[.slice A m c, .slice (some ⟨nb, 0, none⟩) 1 1]).run Tryd.prog W = .ok (.slice (some ⟨g, 0, none⟩) (m + 1) cap) w1 ∧ W.grownBy w1 (Value.slice A m c).ownBlock ∧ LR W0 w1 Fp b n M (.slice (some ⟨g, 0, none⟩) (m + 1) cap) vm vd (ids ++ [s]) mine dat := by
  obtain ⟨g, cap, w1, hrun, hg, hgo, hn, hR⟩ := row_app (W0 := W0) rfl h.ri h.cw.bel.size h.cw.lt Tryd.underlying56 info9 rfl (by decide) (by decide) (by omega) s [.string s] nb hnew (fun _ => rfl) rfl (by simp [Value.oneCell'])
  refine ⟨g, cap, w1, hrun, hg, h.cw.grown hg (row_own h.ri), hR, row_grown rfl h.rm hg (fun k hk e => h.im k e hk), row_grown rfl h.rd hg (fun k hk e => h.id k e hk), fun k hk e => ?_⟩
  obtain rfl : g = k := by simpa [Value.ownBlock] using hk
  rcases hgo with h1 | h1
  · exact h.im g h1 e
  · have := (h.rm.1 g e).2
    omega
theorem LR.app_m {A : Option Addr} {m c : Nat} (h : LR W0 W Fp b n M vi (.slice A m c) vd ids mine dat) (hl : mine.length ≤ 100000) (s : ByteArray) (nb : Nat) (hnew : W.heap[nb]? = some (.cells #[.string s] 9 (0, 0))) :
    ∃ g cap w1, (Builtin.append_ #[56, 56] 56 #[.slice A m c, .slice (some ⟨nb, 0, none⟩) 1 1]).run Tryd.prog W = .ok (.slice (some ⟨g, 0, none⟩) (m + 1) cap) w1 ∧ W.grownBy w1 (Value.slice A m c).ownBlock ∧ LR W0 w1 Fp b n M vi (.slice (some ⟨g, 0, none⟩) (m + 1) cap) vd ids (mine ++ [s]) dat := by
  obtain ⟨g, cap, w1, hrun, hg, hgo, hn, hR⟩ := row_app (W0 := W0) rfl h.rm h.cw.bel.size h.cw.lt Tryd.underlying56 info9 rfl (by decide) (by decide) (by omega) s [.string s] nb hnew (fun _ => rfl) rfl (by simp [Value.oneCell'])
  refine ⟨g, cap, w1, hrun, hg, h.cw.grown hg (row_own h.rm), row_grown rfl h.ri hg (fun k hk => h.im k hk), hR, row_grown rfl h.rd hg (fun k hk e => h.md k e hk), fun k hk e => ?_⟩
  obtain rfl : g = k := by simpa [Value.ownBlock] using e
  rcases hgo with h1 | h1
  · exact h.im g hk h1
  · have := (h.ri.1 g hk).2
    omega
theorem LR.app_d {A : Option Addr} {m c : Nat} (h : LR W0 W Fp b n M vi vm (.slice A m c) ids mine dat) (hl : dat.length ≤ 100000) (x : Value) (hx : x.oneCell' = true) (nb : Nat) (hnew : W.heap[nb]? = some (.cells #[x] 34 (0, 0))) :
    ∃ g cap w1, (Builtin.append_ #[60, 60] 60 #[.slice A m c, .slice (some ⟨nb, 0, none⟩) 1 1]).run Tryd.prog W = .ok (.slice (some ⟨g, 0, none⟩) (m + 1) cap) w1 ∧ W.grownBy w1 (Value.slice A m c).ownBlock ∧ LR W0 w1 Fp b n M vi vm (.slice (some ⟨g, 0, none⟩) (m + 1) cap) ids mine (dat ++ [[x]]) := by
  obtain ⟨g, cap, w1, hrun, hg, hgo, hn, hR⟩ := row_app (W0 := W0) rfl h.rd h.cw.bel.size h.cw.lt Tryd.underlying60 info34 rfl (by decide) (by decide) (by omega) [x] [x] nb hnew (fun _ => ⟨rfl, rfl, by simpa using hx⟩) rfl (by simpa using hx)
  exact ⟨g, cap, w1, hrun, hg, h.cw.grown hg (row_own h.rd), row_grown rfl h.ri hg (fun k hk => h.id k hk), row_grown rfl h.rm hg (fun k hk => h.md k hk), hR, h.im⟩
theorem str_at {W : World} {A : Option Addr} {l : List ByteArray} (h : Kd.C Kd.string W A l.length l) (i : Nat) (hi : i < l.length) : ∃ ad, A = some ad ∧ W.cell? (ad.add i) = some (.string (l.getD i ByteArray.empty)) := by
  obtain ⟨ad, c, e, _, hK, hc⟩ := Kd.C_get h ByteArray.empty (i : Int) (by omega) (by omega)
  rw [Int.toNat_natCast] at hK hc
  obtain rfl : c = [.string (l.getD i ByteArray.empty)] := hK
  exact ⟨ad, e, by simpa [show Kd.string.sz = 1 from rfl] using hc 0 _ rfl⟩
theorem raw_at {W : World} {A : Option Addr} {l : List (List Value)} (h : Kd.C (Kd.raw 1) W A l.length l) (i : Nat) (hi : i < l.length) (x : Value) (hx : l[i]? = some [x]) : ∃ ad, A = some ad ∧ W.cell? (ad.add i) = some x := by
  obtain ⟨ad, c, e, _, hK, hc⟩ := Kd.C_get h [] (i : Int) (by omega) (by omega)
  rw [Int.toNat_natCast] at hK hc
  rw [List.getD_eq_getElem?_getD, hx] at hK
  obtain rfl : c = [x] := hK.1
  exact ⟨ad, e, by simpa [show (Kd.raw 1).sz = 1 from rfl] using hc 0 _ rfl⟩
end
structure Mod (M : ByteArray → List Res) (uri : ByteArray) (n : Nat) (ids : List ByteArray) (ml : List Res) : Prop where
  mu : M uri = ml.drop (ml.length - 4)
  eq : ids = (List.range n).map (fun k : Nat => dec ((k : Int) + 1))
  few : ml.length ≤ n
  mi : ∀ r ∈ ml, ∃ k, k < n ∧ r.1 = dec ((k : Int) + 1)
  pw : ml.Pairwise (fun a b => (a.1.toList == b.1.toList) = false)
theorem dec_ne1 {m n : Nat} (h : m ≠ n) : ((dec ((m : Int) + 1)).toList == (dec ((n : Int) + 1)).toList) = false := by
  have := dec_ne (m := m + 1) (n := n + 1) (by omega)
  push_cast at this
  exact this
section
variable {M : ByteArray → List Res} {uri : ByteArray} {n : Nat} {ids : List ByteArray} {ml : List Res}
theorem Mod.start : Mod (fun _ => []) uri 0 [] [] := ⟨rfl, rfl, Nat.le_refl _, by simp, List.Pairwise.nil⟩
theorem Mod.len (h : Mod M uri n ids ml) : ids.length = n := by rw [h.eq]; simp
theorem last4_drop (l : List Res) (r : Res) : last4 (l.drop (l.length - 4) ++ [r]) = (l ++ [r]).drop ((l ++ [r]).length - 4) := by
  unfold last4
  by_cases c : 4 ≤ l.length
  · rw [if_pos (by simp; omega), List.length_append, List.length_singleton, List.drop_append_of_le_length (by simp; omega), List.drop_append_of_le_length (by omega), List.drop_drop]
    congr 2
    omega
  · rw [if_neg (by simp; omega), show l.length - 4 = 0 by omega, show (l ++ [r]).length - 4 = 0 by simp; omega]
    rfl
theorem Mod.at (h : Mod M uri n ids ml) {k : Nat} (hk : k < n) : ids.getD k ByteArray.empty = dec ((k : Int) + 1) := by
  rw [h.eq, List.getD_eq_getElem?_getD, List.getElem?_map, List.getElem?_range hk]
  rfl
theorem Mod.more (h : Mod M uri n ids ml) : ids ++ [dec ((n : Int) + 1)] = (List.range (n + 1)).map (fun k : Nat => dec ((k : Int) + 1)) := by
  rw [h.eq, List.range_succ, List.map_append]
  rfl
theorem Mod.put (h : Mod M uri n ids ml) (l : List Int) : Mod (putM M uri (dec ((n : Int) + 1), l)) uri (n + 1) (ids ++ [dec ((n : Int) + 1)]) (ml ++ [(dec ((n : Int) + 1), l)]) := by
  refine ⟨?_, h.more, by have := h.few; simp; omega, fun r hr => ?_, ?_⟩
  · unfold putM
    rw [if_pos rfl, h.mu]
    exact last4_drop _ _
  · rcases List.mem_append.1 hr with h1 | h1
    · obtain ⟨k, h2, h3⟩ := h.mi r h1
      exact ⟨k, by omega, h3⟩
    · rw [List.mem_singleton.1 h1]
      exact ⟨n, by omega, rfl⟩
  · rw [List.pairwise_append]
    refine ⟨h.pw, List.pairwise_singleton _ _, fun a ha b hb => ?_⟩
    obtain ⟨k, h2, h3⟩ := h.mi a ha
    rw [List.mem_singleton.1 hb, h3]
    exact dec_ne1 (by omega)
theorem Mod.other (h : Mod M uri n ids ml) {u : ByteArray} (hu : ¬ uri = u) (r : Res) : Mod (putM M u r) uri (n + 1) (ids ++ [dec ((n : Int) + 1)]) ml :=
  ⟨by unfold putM; rw [if_neg hu]; exact h.mu, h.more, by have := h.few; omega, fun r hr => by obtain ⟨k, h2, h3⟩ := h.mi r hr; exact ⟨k, by omega, h3⟩, h.pw⟩
theorem Mod.drop (h : Mod M uri n ids ml) : Mod (dropM M uri) uri n ids [] :=
  ⟨by unfold dropM; rw [if_pos rfl]; rfl, h.eq, Nat.zero_le _, by simp, List.Pairwise.nil⟩
theorem Mod.away (h : Mod M uri n ids ml) {u : ByteArray} (hu : ¬ uri = u) : Mod (dropM M u) uri n ids ml :=
  ⟨by unfold dropM; rw [if_neg hu]; exact h.mu, h.eq, h.few, h.mi, h.pw⟩
end
def DatOk (W0 : World) (dat : List (List Value)) (ml : List Res) : Prop := dat.length = ml.length ∧ ∀ (j : Nat) (r : Res), ml[j]? = some r → ∃ A c, dat[j]? = some [.slice A r.2.length c] ∧ r.2.length ≤ c ∧ r.2.length ≤ 20000 ∧ Kd.C (Kd.int .i64) W0 A r.2.length r.2
theorem DatOk.snoc {W0 : World} {dat : List (List Value)} {ml : List Res} (h : DatOk W0 dat ml) (r : Res) (A : Option Addr) (c : Nat) (hc : r.2.length ≤ c) (hl : r.2.length ≤ 20000) (hC : Kd.C (Kd.int .i64) W0 A r.2.length r.2) : DatOk W0 (dat ++ [[.slice A r.2.length c]]) (ml ++ [r]) := by
  refine ⟨by simp [h.1], fun j r' hj => ?_⟩
  by_cases hlt : j < ml.length
  · rw [List.getElem?_append_left hlt] at hj
    obtain ⟨A', c', h1, h2⟩ := h.2 j r' hj
    exact ⟨A', c', by rw [List.getElem?_append_left (by rw [h.1]; exact hlt)]; exact h1, h2⟩
  · have hl2 := (List.getElem?_eq_some_iff.1 hj).1
    have : j = ml.length := by simp at hl2; omega
    subst this
    rw [List.getElem?_append_right (Nat.le_refl _)] at hj
    simp at hj
    subst hj
    exact ⟨A, c, by rw [← h.1, List.getElem?_append_right (Nat.le_refl _)]; simp, hc, hl, hC⟩
theorem DatOk.drop {W0 : World} {dat : List (List Value)} {ml : List Res} (h : DatOk W0 dat ml) (m : Nat) : DatOk W0 (dat.drop m) (ml.drop m) :=
  ⟨by simp [h.1], fun j r hj => by rw [List.getElem?_drop] at hj ⊢; exact h.2 _ r hj⟩
theorem fnd_snoc (l : List Res) (r : Res) (id : ByteArray) : fnd (l ++ [r]) id = (fnd l id).or (if (r.1.toList == id.toList) = true then some r else none) := by
  unfold fnd
  rw [List.find?_append]
  congr 1
  by_cases c : (r.1.toList == id.toList) = true
  · rw [if_pos c, List.find?_cons, c]
  · rw [if_neg c, List.find?_cons]
    simp only [Bool.not_eq_true] at c
    rw [c]
    rfl
theorem fnd_take {l : List Res} (hp : l.Pairwise (fun a b => (a.1.toList == b.1.toList) = false)) (id : ByteArray) (k : Nat) (r : Res) (hr : l[k]? = some r) :
    fnd (l.take (k + 1)) id = if (r.1.toList == id.toList) = true then some r else fnd (l.take k) id := by
  have hk := (List.getElem?_eq_some_iff.1 hr).1
  rw [List.take_add_one, hr]
  simp only [Option.toList_some]
  rw [fnd_snoc]
  by_cases c : (r.1.toList == id.toList) = true
  · rw [if_pos c, if_pos c]
    have : fnd (l.take k) id = none := by
      unfold fnd
      rw [List.find?_eq_none]
      intro x hx hxe
      obtain ⟨j, hj, rfl⟩ := List.mem_take_iff_getElem.1 hx
      have hpj := List.pairwise_iff_getElem.1 hp j k (by omega) hk (by omega)
      rw [(List.getElem?_eq_some_iff.1 hr).2, beq_eq_false_iff_ne] at hpj
      exact hpj ((beq_iff_eq.1 hxe).trans (beq_iff_eq.1 c).symm)
    rw [this]
    rfl
  · rw [if_neg c, if_neg c, Option.or_none]
end Go.Proofs.YtaphacgdokhmmaaDoor.H
