/- What the laws of caches carry along: the cache, where it lies, what lies outside of it. -/
import Derived.Test.YtaphacgdokhmmaaDoorVHCacheNone
import Derived.Test.YtaphacgdokhmmaaDoorVPureCache
set_option linter.unusedVariables false
set_option linter.unusedSimpArgs false
namespace Go.Proofs.YtaphacgdokhmmaaDoor.H
open Go.RowKit Go.Shelf Go.Proofs.YtaphacgdokhmmaaDoorW.PrintWords Go.Proofs.YtaphacgdokhmmaaDoorW.PrintLast Go.Proofs.YtaphacgdokhmmaaDoorW.PrintMore
structure CW (W0 W : World) (Fp : Nat → Prop) (b n : Nat) (M : ByteArray → List Res) : Prop where
  ci : CI Fp W b n M
  lt : ∀ q, Fp q → q < W.heap.size
  lo : ∀ q, Fp q → W0.heap.size ≤ q
  bel : Below W0.heap.size W0 W
def Out (Fp : Nat → Prop) (W : World) (q : Nat) : Prop := ¬ Fp q ∧ q < W.heap.size
def Keep (Fp : Nat → Prop) (W : World) (Fp' : Nat → Prop) (W' : World) : Prop := ∀ q, Out Fp W q → Out Fp' W' q ∧ W'.heap[q]? = W.heap[q]?
section
variable {W0 W W' : World} {Fp Fp' Fp'' : Nat → Prop} {b n : Nat} {M M' : ByteArray → List Res}
theorem Keep.trans {W'' : World} (h : Keep Fp W Fp' W') (k : Keep Fp' W' Fp'' W'') : Keep Fp W Fp'' W'' := fun q hq => ⟨(k q (h q hq).1).1, (k q (h q hq).1).2.trans (h q hq).2⟩
theorem F_keep {α : Type} {d : Kd α} {A : Option Addr} {m : Nat} {l : List α} (h : Kd.F d W (Out Fp W) A m l) (k : Keep Fp W Fp' W') : Kd.F d W' (Out Fp' W') A m l :=
  Kd.F_mono (Kd.F_step h (fun q hq _ => (k q hq).2)) (fun q hq => (k q hq).1)
theorem keep_below (hb : Below W.heap.size W W') : Keep Fp W Fp W' := fun q hq => ⟨⟨hq.1, Nat.lt_of_lt_of_le hq.2 hb.size⟩, hb.block q hq.2⟩
theorem keep_put (h : Chg Fp W W') : Keep Fp W (more Fp W W') W' := fun q hq => ⟨⟨fun e => by
  rcases e with e | e
  · exact hq.1 e
  · have := hq.2; omega, Nat.lt_of_lt_of_le hq.2 h.size⟩, h.block q hq.2 hq.1⟩
theorem keep_chg (h : Chg Fp W W') : Keep Fp W Fp W' := fun q hq => ⟨⟨hq.1, Nat.lt_of_lt_of_le hq.2 h.size⟩, h.block q hq.2 hq.1⟩
theorem CW.below (h : CW W0 W Fp b n M) (hb : Below W.heap.size W W') : CW W0 W' Fp b n M :=
  ⟨h.ci.below hb, fun q hq => Nat.lt_of_lt_of_le (h.lt q hq) hb.size, h.lo, h.bel.trans (hb.mono h.bel.size)⟩
theorem CW.chg (h : CW W0 W Fp b n M) (hc : Chg Fp W W') : Below W0.heap.size W0 W' :=
  ⟨hc.os.trans h.bel.os, hc.tape.trans h.bel.tape, hc.output.trans h.bel.output, Nat.le_trans h.bel.size hc.size, fun q hq => (hc.block q (Nat.lt_of_lt_of_le hq h.bel.size) (fun e => by have := h.lo q e; omega)).trans (h.bel.block q hq)⟩
theorem CW.tab (h : CW W0 W Fp b n M) (htab : Tab W0) : ∀ W', (∀ q, q < W.heap.size → ¬ Fp q → W'.heap[q]? = W.heap[q]?) → Tab W' := fun W' hk =>
  tab_heap htab (fun q hq => (hk q (Nat.lt_of_lt_of_le hq h.bel.size) (fun e => by have := h.lo q e; omega)).trans (h.bel.block q hq))
theorem CW.new {α : Type} {d : Kd α} {e c m : Nat} {A : Option Addr} {l : List α} (h : CW W0 W Fp b n M) (hb : Below W.heap.size W W') (hR : Kd.R d e W' W.heap.size (fun q => W.heap.size ≤ q) (.slice A m c) l) : Kd.F d W' (Out Fp W') A m l :=
  Kd.F_mono (Kd.F_bound (Kd.R_F hR)) (fun q hq => ⟨fun e => by have := h.lt q e; have := hq.1; omega, hq.2⟩)
end
theorem put_cw {W0 W : World} {Fp : Nat → Prop} {b n : Nat} {M : ByteArray → List Res} (h : CW W0 W Fp b n M) (htab : Tab W0) (u : ByteArray) (hu : u.size ≤ maxLen) (A : Option Addr) (c : Nat) (l : List Int) (hlc : l.length ≤ c) (hF : Kd.F (Kd.int .i64) W (Out Fp W) A l.length l) (hl : l.length ≤ 60000) (hn : n ≤ 100000) :
    Calls Tryd.prog 12 #[.pointer (some ⟨b, 0, none⟩), .string u, .slice A l.length c] W fun e W' => e = .returned (.string (dec ((n : Int) + 1))) ∧ ∃ Fp', CW W0 W' Fp' b (n + 1) (putM M u (dec ((n : Int) + 1), l)) ∧ Keep Fp W Fp' W' ∧ W.heap.size ≤ W'.heap.size := by
  refine (put_calls Fp b n M W h.ci u hu A c l hlc (Kd.F_mono hF (fun q hq => hq.1)) hl hn (h.tab htab)).mono ?_
  rintro e W' ⟨rfl, hci, hch⟩
  exact ⟨rfl, more Fp W W', ⟨hci, fun q hq => by rcases hq with hq | hq; exact Nat.lt_of_lt_of_le (h.lt q hq) hch.size; exact hq.2, fun q hq => by rcases hq with hq | hq; exact h.lo q hq; exact Nat.le_trans h.bel.size hq.1, h.chg hch⟩, keep_put hch, hch.size⟩
theorem get_cw {W0 W : World} {Fp : Nat → Prop} {b n : Nat} {M : ByteArray → List Res} (h : CW W0 W Fp b n M) (u id : ByteArray) (hu : u.size ≤ maxLen) :
    Calls Tryd.prog 11 #[.pointer (some ⟨b, 0, none⟩), .string u, .string id] W fun e W' => ∃ A c, e = .returned (.tuple #[.slice A ((fnd (M u) id).elim [] (·.2)).length c, .bool (fnd (M u) id).isSome]) ∧ ((fnd (M u) id).elim [] (·.2)).length ≤ c ∧ Kd.F (Kd.int .i64) W' (Out Fp W') A ((fnd (M u) id).elim [] (·.2)).length ((fnd (M u) id).elim [] (·.2)) ∧ Kd.R (Kd.int .i64) 3 W' W.heap.size (fun q => W.heap.size ≤ q) (.slice A ((fnd (M u) id).elim [] (·.2)).length c) ((fnd (M u) id).elim [] (·.2)) ∧ CW W0 W' Fp b n M ∧ Below W.heap.size W W' := by
  refine (get_calls Fp b n M W h.ci u id hu).mono ?_
  rintro e W' ⟨v, rfl, hR, hb⟩
  obtain ⟨A, c, rfl, hc, _⟩ := Kd.R_reads hR
  exact ⟨A, c, rfl, hc, h.new hb hR, hR, h.below hb, hb⟩
theorem kept_cw {W0 W : World} {Fp : Nat → Prop} {b n : Nat} {M : ByteArray → List Res} (h : CW W0 W Fp b n M) (u : ByteArray) (hu : u.size ≤ maxLen) :
    Calls Tryd.prog 13 #[.pointer (some ⟨b, 0, none⟩), .string u] W fun e W' => ∃ A c, e = .returned (.slice A ((M u).map (·.1)).length c) ∧ ((M u).map (·.1)).length ≤ c ∧ Kd.F Kd.string W' (Out Fp W') A ((M u).map (·.1)).length ((M u).map (·.1)) ∧ CW W0 W' Fp b n M ∧ Below W.heap.size W W' := by
  refine (kept_calls Fp b n M W h.ci u hu).mono ?_
  rintro e W' ⟨v, rfl, hR, hb⟩
  obtain ⟨A, c, rfl, hc, _⟩ := Kd.R_reads hR
  exact ⟨A, c, rfl, hc, h.new hb hR, h.below hb, hb⟩
theorem drop_cw {W0 W : World} {Fp : Nat → Prop} {b n : Nat} {M : ByteArray → List Res} (h : CW W0 W Fp b n M) (u : ByteArray) (hu : u.size ≤ maxLen) :
    Calls Tryd.prog 10 #[.pointer (some ⟨b, 0, none⟩), .string u] W fun e W' => e = .returned (.tuple #[]) ∧ CW W0 W' Fp b n (dropM M u) ∧ Keep Fp W Fp W' ∧ W.heap.size ≤ W'.heap.size := by
  refine (drop_calls Fp b n M W h.ci u hu).mono ?_
  rintro e W' ⟨rfl, hci, hch, hs⟩
  exact ⟨rfl, ⟨hci, fun q hq => by rw [hs]; exact h.lt q hq, h.lo, h.chg hch⟩, keep_chg hch, hch.size⟩
theorem k36_heap_ : Kd.Heap k36 := Kd.heap_iso _ (Kd.heap_pair (Kd.heap_int .i64) (Kd.heap_pair Kd.heap_string (Kd.heap_pair Kd.heap_string (Kd.heap_slice 3 (Kd.heap_int .i64)))))
theorem act_at {W : World} {ok : Nat → Prop} {A : Option Addr} {l : List S36} (h : Kd.F k36 W ok A l.length l) (i : Nat) (hi : i < l.length) :
    ∃ ad A3 c3, A = some ad ∧ W.cell? (ad.add (i * 4)) = some (.int .i64 (l.getD i z36).f0) ∧ W.cell? ⟨(ad.add (i * 4)).block, (ad.add (i * 4)).off + 1, none⟩ = some (.string (l.getD i z36).f1) ∧ W.cell? ⟨(ad.add (i * 4)).block, (ad.add (i * 4)).off + 2, none⟩ = some (.string (l.getD i z36).f2) ∧ W.cell? ⟨(ad.add (i * 4)).block, (ad.add (i * 4)).off + 3, none⟩ = some (.slice A3 (l.getD i z36).f3.length c3) ∧ (l.getD i z36).f3.length ≤ c3 ∧ Kd.F (Kd.int .i64) W ok A3 (l.getD i z36).f3.length (l.getD i z36).f3 := by
  obtain ⟨ad, cs, e, hl, hK, hc, _⟩ := Kd.F_get h z36 (i : Int) (by omega) (by omega)
  rw [Int.toNat_natCast] at hK hc
  obtain ⟨A3, c3, hcs, l3, _⟩ := k36_open (Kd.FK_now hK)
  have hc' : ∀ j u, cs[j]? = some u → W.cell? (ad.add (i * 4 + j)) = some u := hc
  rw [hcs] at hc'
  refine ⟨ad, A3, c3, e, by simpa using hc' 0 _ rfl, by rw [← add_field _ _ 1 (by omega)]; exact hc' 1 _ rfl, by rw [← add_field _ _ 2 (by omega)]; exact hc' 2 _ rfl, by rw [← add_field _ _ 3 (by omega)]; exact hc' 3 _ rfl, l3, fun W' hW => ?_⟩
  obtain ⟨A4, c4, hcs2, _, g4⟩ := k36_open (hK W' hW)
  rw [hcs] at hcs2
  simp only [List.cons.injEq, Value.slice.injEq, and_true, true_and] at hcs2
  rw [hcs2.1]
  exact g4
end Go.Proofs.YtaphacgdokhmmaaDoor.H
