/- ClassifyLegend, walked, in a world that holds the table. -/
import Derived.Test.YtejdjnfcfnppaaaDoorHClone
import Derived.Test.YtejdjnfcfnppaaaDoorHxglossatorref22Types
import Derived.Test.YtejdjnfcfnppaaaDoorHxglossatorref22Modifiers
import Derived.Deep.LoopGhost
set_option linter.unusedVariables false
set_option linter.unusedSimpArgs false
namespace Go.Proofs.YtejdjnfcfnppaaaDoor.H
open Go.RowKit Go.Proofs.YtejdjnfcfnppaaaDoorW.PrintWords Go.Proofs.YtejdjnfcfnppaaaDoorW.PrintLast Go.Proofs.YtejdjnfcfnppaaaDoorW.PrintMore

def TY : List ByteArray := (glossatorref22_Types.f).getD []
def MD : List ByteArray := (glossatorref22_Modifiers.f).getD []
/-- The table is there. -/
def Table (w : World) : Prop := (∃ ad c, w.cell? ⟨0, 0, none⟩ = some (.slice (some ad) 8 c) ∧ 8 ≤ c ∧ Kd.string.C w (some ad) 8 TY) ∧ ∃ ad c, w.cell? ⟨0, 1, none⟩ = some (.slice (some ad) 3 c) ∧ 3 ≤ c ∧ Kd.string.C w (some ad) 3 MD
theorem Table.below {w w1 : World} (h : Table w) (hb : Below w.heap.size w w1) : Table w1 := by
  obtain ⟨⟨ad, c, h1, h2, h3⟩, ad', c', h4, h5, h6⟩ := h
  exact ⟨⟨ad, c, (hb.cell (World.block_lt_of_cell? w _ h1)).trans h1, h2, Kd.C_below h3 hb⟩, ad', c', (hb.cell (World.block_lt_of_cell? w _ h4)).trans h4, h5, Kd.C_below h6 hb⟩
set_option maxHeartbeats 8000000 in
set_option maxRecDepth 100000 in
theorem types_calls (w : World) (h : Table w) : Calls Tryd.prog 4 #[] w fun e w' => ∃ v0_ : Value, e = .returned v0_ ∧ Kd.R Kd.string 9 w' w.heap.size (fun _ => True) v0_ TY ∧ Below w.heap.size w w' := by
  obtain ⟨⟨ad, c, h1, h2, h3⟩, _⟩ := h
  have HC := Aside0.mk h3
  have hu := Tryd.underlying26
  clear h3
  go_enter Tryd.func4, Tryd.ntmps4
  go_wp2_with fail
  refine (clone_calls ad c TY _ HC.out h2 (by decide)).mono ?_
  rintro e W1 ⟨v, rfl, ho, hb⟩
  go_wp2
  go_ret
  exact ⟨_, rfl, ho, hb⟩
set_option maxHeartbeats 8000000 in
set_option maxRecDepth 100000 in
theorem modifiers_calls (w : World) (h : Table w) : Calls Tryd.prog 5 #[] w fun e w' => ∃ v0_ : Value, e = .returned v0_ ∧ Kd.R Kd.string 9 w' w.heap.size (fun _ => True) v0_ MD ∧ Below w.heap.size w w' := by
  obtain ⟨_, ⟨ad, c, h1, h2, h3⟩⟩ := h
  have HC := Aside0.mk h3
  have hu := Tryd.underlying26
  clear h3
  go_enter Tryd.func5, Tryd.ntmps5
  go_wp2_with fail
  refine (clone_calls ad c MD _ HC.out h2 (by decide)).mono ?_
  rintro e W1 ⟨v, rfl, ho, hb⟩
  go_wp2
  go_ret
  exact ⟨_, rfl, ho, hb⟩
/-- A row of strings of the call's own, its block written out: from number i on it reads as l. -/
def Str (base : Nat) (w : World) (l : List ByteArray) (i : Nat) (g cap : Nat) : Prop := base ≤ g ∧ l.length ≤ cap ∧ ∃ cur : Array Value, w.heap[g]? = some (.cells cur 9 (0, 0)) ∧ cur.size = cap ∧ ∀ j, i ≤ j → (h : j < l.length) → cur[j]? = some (.string l[j])
theorem Str.of_R {w : World} {base : Nat} {ok : Nat → Prop} {v : Value} {l : List ByteArray} (h : Kd.R Kd.string 9 w base ok v l) (hl : 0 < l.length) : ∃ g cap, v = .slice (some ⟨g, 0, none⟩) l.length cap ∧ Str base w l 0 g cap := by
  have ho := Kd.own_of_R (h1 := fun _ => rfl) h
  rcases ho.2 with ⟨_, h0⟩ | ⟨g, cap, cur, hv, hb, hh, hle, hm, hs, ht⟩
  · omega
  · refine ⟨g, cap, hv, hb, hle, cur, hh, by omega, fun j _ hj => ?_⟩
    have := congrArg (·[j]?) ht
    simp only [Nat.mul_one] at this
    rw [List.getElem?_take_of_lt hj, encs_get (d := ByteArray.empty) l j hj] at this
    rw [← Array.getElem?_toList, this, List.getD_eq_getElem?_getD, List.getElem?_eq_getElem hj]
    rfl
theorem Str.below {w w1 : World} {base : Nat} {l : List ByteArray} {i g cap : Nat} (h : Str base w l i g cap) (hb : Below w.heap.size w w1) : Str base w1 l i g cap := by
  obtain ⟨h1, h2, cur, h3, h4⟩ := h
  exact ⟨h1, h2, cur, blk_below h3 hb, h4⟩
theorem Str.far {w : World} {base : Nat} {l : List ByteArray} {i g cap : Nat} (h : Str base w l i g cap) {g' j : Nat} (hne : g ≠ g') (u : Value) : Str base (w.setCell ⟨g', j, none⟩ u) l i g cap := by
  obtain ⟨h1, h2, cur, h3, h4⟩ := h
  exact ⟨h1, h2, cur, blk_far h3 hne u, h4⟩
theorem Str.set {w : World} {base : Nat} {l : List ByteArray} {i g cap : Nat} (h : Str base w l i g cap) (u : Value) : Str base (w.setCell ⟨g, i, none⟩ u) l (i + 1) g cap := by
  obtain ⟨h1, h2, cur, h3, h4, h5⟩ := h
  refine ⟨h1, h2, _, blk_set h3 i u, by rw [Array.size_setIfInBounds]; exact h4, fun j hj hl => ?_⟩
  rw [Array.getElem?_setIfInBounds_ne (by omega)]
  exact h5 j (by omega) hl
theorem Str.at {w : World} {base : Nat} {l : List ByteArray} {i g cap : Nat} (h : Str base w l i g cap) (hi : i < l.length) : w.cell? ⟨g, i, none⟩ = some (.string l[i]) ∧ w.frozen? ⟨g, i, none⟩ = false := by
  obtain ⟨h1, h2, cur, h3, h4, h5⟩ := h
  exact ⟨by rw [blk_cell h3]; exact h5 i (Nat.le_refl _) hi, blk_frozen h3 i⟩
theorem Str.get {w : World} {base : Nat} {l : List ByteArray} {g cap : Nat} (h : Str base w l 0 g cap) (i : Nat) (hi : i < l.length) : w.cell? ⟨g, i, none⟩ = some (.string l[i]) := by
  obtain ⟨h1, h2, cur, h3, h4, h5⟩ := h
  rw [blk_cell h3]
  exact h5 i (Nat.zero_le _) hi
theorem Str.lt {w : World} {base : Nat} {l : List ByteArray} {i g cap : Nat} (h : Str base w l i g cap) : g < w.heap.size := by
  obtain ⟨h1, h2, cur, h3, h4, h5⟩ := h
  exact blk_lt h3
set_option maxHeartbeats 8000000 in
set_option maxRecDepth 100000 in
theorem legend_calls (w : World) (h : Table w) : Calls Tryd.prog 3 #[] w fun e w' => e = .returned (.bool true) ∧ Below w.heap.size w w' := by
  have HT := Aside0.mk h
  clear h
  go_enter Tryd.func3, Tryd.ntmps3
  go_wp2
  go_loopg [1] 2 (fun kq v1 w' => ∃ i : Nat, v1 = .int .i64 i ∧ Aside0 (kq = 2 - i) ∧ i ≤ 2 ∧ Aside0 (Below w.heap.size w w'))
  case atStart => exact ⟨0, rfl, ⟨rfl⟩, by omega, ⟨Below.refl _ _⟩⟩
  case round =>
    obtain ⟨i, rfl, HK, hi, HB⟩ := hrel
    obtain ⟨wo, hwo⟩ : ∃ wo, wo = wr := ⟨_, rfl⟩
    subst hwo
    by_cases hlt : i < 2
    · have d1 : decide ((i : Int) < 2) = true := decide_eq_true (by omega)
      go_wp2_with fail
      refine (types_calls _ (HT.out.below HB.out)).mono ?_
      rintro e W1 ⟨v2, rfl, ho2, hb2⟩
      obtain ⟨ga, ca, rfl, hs2⟩ := Str.of_R ho2 (by decide)
      have HS2 := Aside0.mk hs2
      have HB2 := Aside0.mk hb2
      have HB2s := hb2.size
      clear ho2 hb2 hs2
      go_wp2_with fail
      refine (modifiers_calls _ ((HT.out.below HB.out).below HB2.out)).mono ?_
      rintro e W2 ⟨v3, rfl, ho3, hb3⟩
      obtain ⟨gb, cb, rfl, hs3⟩ := Str.of_R ho3 (by decide)
      have HS3 := Aside0.mk hs3
      have HS2' := Aside0.mk (HS2.out.below hb3)
      have HB3 := Aside0.mk (below_step HB2.out hb3)
      have HNE1 := Aside0.mk (show ga ≠ gb by have := HS2.out.lt; have := hs3.1; omega)
      clear ho3 hb3 hs3 HS2 HB2
      go_wp2_with fail
      refine (glossatorref22_Types.calls TY _ rfl).mono ?_
      rintro e W3 ⟨v4, rfl, ho4, hb4⟩
      obtain ⟨gc, cc, rfl, hs4⟩ := Str.of_R ho4 (by decide)
      have HS4 := Aside0.mk hs4
      have HS2 := Aside0.mk (HS2'.out.below hb4)
      have HS3' := Aside0.mk (HS3.out.below hb4)
      have HB4 := Aside0.mk (below_step HB3.out hb4)
      have HNE2 := Aside0.mk (show ga ≠ gc ∧ gb ≠ gc by have := HS2'.out.lt; have := HS3.out.lt; have := hs4.1; omega)
      clear ho4 hb4 hs4 HS2' HS3 HB3
      go_wp2_with fail
      refine (glossatorref22_Modifiers.calls MD _ rfl).mono ?_
      rintro e W4 ⟨v5, rfl, ho5, hb5⟩
      obtain ⟨gd, cd, rfl, hs5⟩ := Str.of_R ho5 (by decide)
      have HSd := Aside0.mk hs5
      have HSa := Aside0.mk (HS2.out.below hb5)
      have HSb := Aside0.mk (HS3'.out.below hb5)
      have HSc := Aside0.mk (HS4.out.below hb5)
      have HB5 := Aside0.mk (below_step HB4.out hb5)
      have HNE3 := Aside0.mk (show ga ≠ gd ∧ gb ≠ gd ∧ gc ≠ gd by have := HS2.out.lt; have := HS3'.out.lt; have := HS4.out.lt; have := hs5.1; omega)
      have hga := Aside0.mk (show wo.heap.size ≤ ga from HSa.out.1)
      have hgb := Aside0.mk (show wo.heap.size ≤ gb from Nat.le_trans HB2s HSb.out.1)
      clear ho5 hb5 hs5 HS2 HS3' HS4 HB4
      obtain ⟨b1, hb1⟩ : ∃ b, b = W1.heap.size := ⟨_, rfl⟩
      obtain ⟨b2, hb2⟩ : ∃ b, b = W2.heap.size := ⟨_, rfl⟩
      obtain ⟨b3, hb3⟩ : ∃ b, b = W3.heap.size := ⟨_, rfl⟩
      rw [← hb1] at HSb
      rw [← hb2] at HSc
      rw [← hb3] at HSd
      clear hb1 hb2 hb3 HB2s
      go_wp2
      go_loopg [6] TY.length (fun kq v6 w' => ∃ j : Nat, v6 = .int .i64 j ∧ Aside0 (kq = TY.length - j) ∧ j ≤ TY.length ∧ Aside0 (Str wo.heap.size w' TY j ga ca) ∧ Aside0 (Str b1 w' MD 0 gb cb) ∧ Aside0 (Str b2 w' TY 0 gc cc) ∧ Aside0 (Str b3 w' MD 0 gd cd) ∧ Aside0 (Below wo.heap.size wo w'))
      case atStart => exact ⟨0, rfl, ⟨rfl⟩, Nat.zero_le _, HSa, HSb, HSc, HSd, HB5⟩
      case round =>
        clear HSa HSb HSc HSd HB5
        obtain ⟨j, rfl, HJ, hj, HSa, HSb, HSc, HSd, HB5⟩ := hrel
        by_cases hjl : j < TY.length
        · have d2 : decide ((j : Int) < (TY.length : Int)) = true := decide_eq_true (by omega)
          obtain ⟨x, hx⟩ : ∃ x, x = TY[j] := ⟨_, rfl⟩
          have k1 := (HSa.out.at hjl).1
          have k2 := (HSa.out.at hjl).2
          have k3 := HSc.out.get j hjl
          rw [← hx] at k1 k3
          clear hx
          go_wp2
          go_quiet (fail)
          go_wp2
          go_roundg (TY.length - (j + 1))
          case measure => have := HJ.out; omega
          case rel =>
            have hT : TY.length = 8 := rfl
            have hD : Below wr.heap.size wr (wr.drewN nq) := pw_below_drewN (Below.refl _ _) _
            exact ⟨j + 1, by rw [show wrap64 ((j : Int) + 1) = ((j + 1 : Nat) : Int) by unfold wrap64; omega], ⟨rfl⟩, by omega, ⟨(HSa.out.below hD).set _⟩, ⟨(HSb.out.below hD).far (Ne.symm HNE1.out) _⟩, ⟨(HSc.out.below hD).far (Ne.symm HNE2.out.1) _⟩, ⟨(HSd.out.below hD).far (Ne.symm HNE3.out.1) _⟩, ⟨(pw_below_drewN HB5.out nq).setCell hga.out _⟩⟩
        · have d2 : decide ((j : Int) < (TY.length : Int)) = false := decide_eq_false (by omega)
          go_wp2
          go_loopg [7] MD.length (fun kq v7 w' => ∃ m : Nat, v7 = .int .i64 m ∧ Aside0 (kq = MD.length - m) ∧ m ≤ MD.length ∧ Aside0 (Str b1 w' MD m gb cb) ∧ Aside0 (Str b3 w' MD 0 gd cd) ∧ Aside0 (Below wo.heap.size wo w'))
          case atStart => exact ⟨0, rfl, ⟨rfl⟩, Nat.zero_le _, HSb, HSd, HB5⟩
          case round =>
            clear HSa HSb HSc HSd HB5 HJ
            obtain ⟨m, rfl, HJ, hm, HSb, HSd, HB5⟩ := hrel
            by_cases hml : m < MD.length
            · have d3 : decide ((m : Int) < (MD.length : Int)) = true := decide_eq_true (by omega)
              obtain ⟨x, hx⟩ : ∃ x, x = MD[m] := ⟨_, rfl⟩
              have k1 := (HSb.out.at hml).1
              have k2 := (HSb.out.at hml).2
              have k3 := HSd.out.get m hml
              rw [← hx] at k1 k3
              clear hx
              go_wp2
              go_quiet (fail)
              go_wp2
              go_roundg (MD.length - (m + 1))
              case measure => have := HJ.out; omega
              case rel =>
                have hT : MD.length = 3 := rfl
                have hD : Below wr.heap.size wr (wr.drewN nq) := pw_below_drewN (Below.refl _ _) _
                exact ⟨m + 1, by rw [show wrap64 ((m : Int) + 1) = ((m + 1 : Nat) : Int) by unfold wrap64; omega], ⟨rfl⟩, by omega, ⟨(HSb.out.below hD).set _⟩, ⟨(HSd.out.below hD).far (Ne.symm HNE3.out.2.1) _⟩, ⟨(pw_below_drewN HB5.out nq).setCell hgb.out _⟩⟩
            · have d3 : decide ((m : Int) < (MD.length : Int)) = false := decide_eq_false (by omega)
              go_wp2
              go_roundg (2 - (i + 1))
              case measure => have := HK.out; omega
              case rel => exact ⟨i + 1, by go_num, ⟨rfl⟩, by omega, ⟨below_step HB.out HB5.out⟩⟩
    · obtain rfl : i = 2 := by omega
      have d1 : decide (((2 : Nat) : Int) < 2) = false := rfl
      go_wp2
      go_ret
      exact ⟨rfl, HB.out⟩
end Go.Proofs.YtejdjnfcfnppaaaDoor.H
