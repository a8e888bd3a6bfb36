/- A cache and the document's cache beside each other: what `one` keeps. -/
import Derived.Test.YtaphacgdokhmmaaDoorVHRefPut
set_option linter.unusedVariables false
set_option linter.unusedSimpArgs false
namespace Go.Proofs.YtaphacgdokhmmaaDoor.H
open Go.RowKit Go.Shelf Go.Proofs.YtaphacgdokhmmaaDoorW.PrintWords Go.Proofs.YtaphacgdokhmmaaDoorW.PrintLast Go.Proofs.YtaphacgdokhmmaaDoorW.PrintMore
structure PR (W0 W : World) (Fp Fr : Nat → Prop) (b1 n : Nat) (M : ByteArray → List Res) (b2 : Nat) (A : Option Addr) (c : Nat) (L : List PutR) : Prop where
  cw : CW W0 W Fp b1 n M
  rc : RC Fr W b2 A c L
  lt : ∀ q, Fr q → q < W.heap.size
  lo : ∀ q, Fr q → W0.heap.size ≤ q
  ap : ∀ q, Fp q → ¬ Fr q
  nl : n = L.length
  says : Says M L
section
variable {W0 W W' : World} {Fp Fr : Nat → Prop} {b1 n b2 c : Nat} {M : ByteArray → List Res} {A : Option Addr} {L : List PutR}
theorem PR.mu (h : PR W0 W Fp Fr b1 n M b2 A c L) (u : ByteArray) : M u = keptRes L u := h.says u
theorem PR.below (h : PR W0 W Fp Fr b1 n M b2 A c L) (hb : Below W.heap.size W W') : PR W0 W' Fp Fr b1 n M b2 A c L :=
  ⟨h.cw.below hb, h.rc.below hb, fun q hq => Nat.lt_of_lt_of_le (h.lt q hq) hb.size, h.lo, h.ap, h.nl, h.says⟩
def Both (Fp Fr : Nat → Prop) : Nat → Prop := fun q => Fp q ∨ Fr q
theorem PR.chg (h : PR W0 W Fp Fr b1 n M b2 A c L) (hc : Chg (Both Fp Fr) W W') : Below W0.heap.size W0 W' :=
  ⟨hc.os.trans h.cw.bel.os, hc.tape.trans h.cw.bel.tape, hc.output.trans h.cw.bel.output, Nat.le_trans h.cw.bel.size hc.size, fun q hq => (hc.block q (Nat.lt_of_lt_of_le hq h.cw.bel.size) (fun e => by
    rcases e with e | e
    · have := h.cw.lo q e; omega
    · have := h.lo q e; omega)).trans (h.cw.bel.block q hq)⟩
theorem PR.other {Gp Gr : Nat → Prop} (h : PR W0 W Fp Fr b1 n M b2 A c L) (hc : Chg (Both Gp Gr) W W') (hB : Below W0.heap.size W0 W') (ha : ∀ q, Both Fp Fr q → ¬ Both Gp Gr q) : PR W0 W' Fp Fr b1 n M b2 A c L :=
  ⟨⟨h.cw.ci.keep (fun q hq hl => hc.block q hl (ha q (.inl hq))), fun q hq => Nat.lt_of_lt_of_le (h.cw.lt q hq) hc.size, h.cw.lo, hB⟩,
    h.rc.keep (fun q hq hl => hc.block q hl (ha q (.inr hq))), fun q hq => Nat.lt_of_lt_of_le (h.lt q hq) hc.size, h.lo, h.ap, h.nl, h.says⟩
end
theorem chg_of_below {Fp : Nat → Prop} {W W' : World} (h : Below W.heap.size W W') : Chg Fp W W' := ⟨h.os, h.tape, h.output, h.size, fun q hq _ => h.block q hq⟩
theorem Chg.wide {Fp Gp : Nat → Prop} {W W' : World} (h : Chg Fp W W') (hs : ∀ q, Fp q → Gp q) : Chg Gp W W' := ⟨h.os, h.tape, h.output, h.size, fun q hq hf => h.block q hq (fun e => hf (hs q e))⟩
theorem chg_set {Fp : Nat → Prop} {W : World} {g j : Nat} {v : Value} (hg : Fp g) : Chg Fp W (W.setCell ⟨g, j, none⟩ v) :=
  ⟨by simp [World.setCell], by simp [World.setCell], by simp [World.setCell], by simp, fun q hq hf => Below.heap_setCell _ _ _ _ (show q ≠ g from fun e => hf (e ▸ hg))⟩
theorem pair_mid {W0 X w7 w8 w9 wl : World} {Fp Fp' Fr : Nat → Prop} {b1 n n' b2 c : Nat} {M M5 : ByteArray → List Res} {A : Option Addr} {L : List PutR} (h : PR W0 X Fp Fr b1 n M b2 A c L) (h7 : Below X.heap.size X w7) (hc8 : CW W0 w8 Fp' b1 n' M5) (hk8 : Keep Fp w7 Fp' w8) (hs8 : w7.heap.size ≤ w8.heap.size) (h9 : Below w8.heap.size w8 w9) (hcl : Chg (fun q => X.heap.size ≤ q ∧ q < w7.heap.size) w9 wl) :
    RC Fr wl b2 A c L ∧ CW W0 wl Fp' b1 n' M5 ∧ (∀ q, Out Fp X q → wl.heap[q]? = X.heap[q]?) ∧ (∀ q, Fr q → ¬ Fp' q) ∧ X.heap.size ≤ wl.heap.size ∧ ∀ q, Out Fp X q → ¬ Fp' q := by
  have h0 := h.cw.bel.size
  have hsz : X.heap.size ≤ wl.heap.size := Nat.le_trans h7.size (Nat.le_trans hs8 (Nat.le_trans h9.size hcl.size))
  have hout : ∀ q, Out Fp X q → Out Fp w7 q := fun q hq => ⟨hq.1, Nat.lt_of_lt_of_le hq.2 h7.size⟩
  have hst : ∀ q, Out Fp X q → wl.heap[q]? = X.heap[q]? := fun q hq => by
    have h8 := hk8 q (hout q hq)
    exact (hcl.block q (Nat.lt_of_lt_of_le h8.1.2 h9.size) (fun e => by have := hq.2; omega)).trans ((h9.block q h8.1.2).trans (h8.2.trans (h7.block q hq.2)))
  have hro : ∀ q, Fr q → Out Fp X q := fun q hq => ⟨fun e => h.ap q e hq, h.lt q hq⟩
  refine ⟨h.rc.keep (fun q hq hl => hst q (hro q hq)), ⟨hc8.ci.keep (fun q hq hl => (hcl.block q (Nat.lt_of_lt_of_le hl h9.size) (fun e => ?_)).trans (h9.block q hl)), fun q hq => Nat.lt_of_lt_of_le (hc8.lt q hq) (Nat.le_trans h9.size hcl.size), hc8.lo,
    ⟨hcl.os.trans (h9.os.trans hc8.bel.os), hcl.tape.trans (h9.tape.trans hc8.bel.tape), hcl.output.trans (h9.output.trans hc8.bel.output), Nat.le_trans hc8.bel.size (Nat.le_trans h9.size hcl.size), fun q hq => (hcl.block q (by have := hc8.bel.size; have := h9.size; omega) (fun e => by omega)).trans ((h9.block q (by have := hc8.bel.size; omega)).trans (hc8.bel.block q hq))⟩⟩, hst, fun q hq => (hk8 q (hout q (hro q hq))).1.1, hsz, fun q hq => (hk8 q (hout q hq)).1.1⟩
  have : Out Fp w7 q := ⟨fun e' => by have := h.cw.lt q e'; omega, e.2⟩
  exact (hk8 q this).1.1 hq
theorem pair_end {W0 W X wl w11 : World} {Fp Fp' Fr : Nat → Prop} {b1 n n' b2 c c' : Nat} {M M5 : ByteArray → List Res} {A A' : Option Addr} {L L' : List PutR} (h : PR W0 X Fp Fr b1 n M b2 A c L) (hWX : Below W.heap.size W X)
    (hcw : CW W0 wl Fp' b1 n' M5) (hst : ∀ q, Out Fp X q → wl.heap[q]? = X.heap[q]?) (hrp : ∀ q, Fr q → ¬ Fp' q) (hsz : X.heap.size ≤ wl.heap.size) (hnp : ∀ q, Out Fp X q → ¬ Fp' q)
    (hr : RC (more Fr wl w11) w11 b2 A' c' L') (hcr : Chg Fr wl w11) (hs : Says M5 L') (hl : n' = L'.length) :
    PR W0 w11 Fp' (more Fr wl w11) b1 n' M5 b2 A' c' L' ∧ Chg (Both Fp Fr) W w11 ∧ ∀ q, Both Fp' (more Fr wl w11) q → Both Fp Fr q ∨ W.heap.size ≤ q := by
  have hB : Below W0.heap.size W0 w11 := ⟨hcr.os.trans hcw.bel.os, hcr.tape.trans hcw.bel.tape, hcr.output.trans hcw.bel.output, Nat.le_trans hcw.bel.size hcr.size, fun q hq => (hcr.block q (by have := hcw.bel.size; omega) (fun e => by have := h.lo q e; omega)).trans (hcw.bel.block q hq)⟩
  refine ⟨⟨⟨hcw.ci.keep (fun q hq hl => hcr.block q hl (fun e => hrp q e hq)), fun q hq => Nat.lt_of_lt_of_le (hcw.lt q hq) hcr.size, hcw.lo, hB⟩, hr, fun q hq => ?_, fun q hq => ?_, fun q hq e => ?_, hl, hs⟩, ⟨?_, ?_, ?_, ?_, fun q hq hf => ?_⟩, fun q hq => ?_⟩
  · rcases hq with hq | hq
    · have := h.lt q hq; have := hcr.size; omega
    · exact hq.2
  · rcases hq with hq | hq
    · exact h.lo q hq
    · have := hcw.bel.size; omega
  · rcases e with e | e
    · exact hrp q e hq
    · have := hcw.lt q hq; omega
  · exact (hcr.os.trans hcw.bel.os).trans (h.cw.bel.os.symm.trans hWX.os)
  · exact (hcr.tape.trans hcw.bel.tape).trans (h.cw.bel.tape.symm.trans hWX.tape)
  · exact (hcr.output.trans hcw.bel.output).trans (h.cw.bel.output.symm.trans hWX.output)
  · have := hWX.size; have := hcr.size; omega
  · have hx := hWX.size
    exact (hcr.block q (by omega) (fun e => hf (.inr e))).trans ((hst q ⟨fun e => hf (.inl e), by omega⟩).trans (hWX.block q hq))
  · rcases hq with hq | hq | hq
    · by_cases hw : W.heap.size ≤ q
      · exact .inr hw
      · by_cases hp : Fp q
        · exact .inl (.inl hp)
        · have hx := hWX.size
          exact absurd hq (hnp q ⟨hp, by omega⟩)
    · exact .inl (.inr hq)
    · have hx := hWX.size
      exact .inr (by omega)
end Go.Proofs.YtaphacgdokhmmaaDoor.H
