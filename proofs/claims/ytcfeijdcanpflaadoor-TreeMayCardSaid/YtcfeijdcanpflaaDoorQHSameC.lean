/- tree.Same. -/
import Derived.Test.YtcfeijdcanpflaaDoorQHTreeGrow
import Derived.Deep.LoopGhost
import Derived.Outline
set_option linter.unusedVariables false
set_option linter.unusedSimpArgs false
namespace Go.Proofs.YtcfeijdcanpflaaDoor.H
open Go.RowKit Go.Proofs.YtcfeijdcanpflaaDoorW.PrintWords Go.Proofs.YtcfeijdcanpflaaDoorW.PrintLast Go.Proofs.YtcfeijdcanpflaaDoorW.PrintMore
mutual
/-- Two trees are the same. -/
def sameB : S25 → S25 → Bool
  | ⟨k, w, wd, l⟩, u => (k == u.f0) && ((w == u.f1) && ((wd == u.f2) && sameL l u.f3))
def sameL : List S25 → List S25 → Bool
  | [], [] => true
  | t :: r, u :: s => sameB t u && sameL r s
  | [], _ :: _ => false
  | _ :: _, [] => false
end
theorem sameL_len : ∀ (l m : List S25), l.length ≠ m.length → sameL l m = false
  | [], [], h => absurd rfl h
  | [], _ :: _, _ => by simp only [sameL]
  | _ :: _, [], _ => by simp only [sameL]
  | t :: r, u :: s, h => by simp only [sameL, sameL_len r s (by simpa using h), Bool.and_false]
mutual
theorem sameB_refl : ∀ t : S25, sameB t t = true
  | ⟨k, w, wd, l⟩ => by simp [sameB, sameBL_refl l]
theorem sameBL_refl : ∀ l : List S25, sameL l l = true
  | [] => by simp only [sameL]
  | t :: r => by simp only [sameL, sameB_refl t, sameBL_refl r, Bool.and_self]
end
abbrev nodeV (t : S25) (A : Option Addr) (c : Nat) : Value := .agg #[.int .u8 t.f0, .int .u8 t.f1, .int .i64 t.f2, .slice A t.f3.length c]
def SameAt (t u : S25) : Prop := ∀ (A B : Option Addr) (cA cB : Nat) (W : World), t.f3.length ≤ cA → u.f3.length ≤ cB → Kd.C k25 W A t.f3.length t.f3 → Kd.C k25 W B u.f3.length u.f3 →
    Calls Tryd.prog 16 #[nodeV t A cA, nodeV u B cB] W fun e W' => e = .returned (.bool (sameB t u)) ∧ Below W.heap.size W W'
theorem sameL_drop {l m : List S25} {i : Nat} (h1 : i < l.length) (h2 : i < m.length) : sameL (l.drop i) (m.drop i) = (sameB l[i] m[i] && sameL (l.drop (i + 1)) (m.drop (i + 1))) := by
  rw [List.drop_eq_getElem_cons h1, List.drop_eq_getElem_cons h2]
  simp only [sameL]
set_option maxHeartbeats 4000000 in
set_option maxRecDepth 100000 in
theorem eqf_calls (l m : List S25) (hel : ∀ (i : Nat) (h1 : i < l.length) (h2 : i < m.length), SameAt l[i] m[i]) (A B : Option Addr) (cA cB : Nat) (W : World) (hA : Kd.C k25 W A l.length l) (hB : Kd.C k25 W B m.length m) :
    Calls Tryd.prog 35 #[.slice A l.length cA, .slice B m.length cB, .func (.func 16) #[] #[]] W fun e W' => e = .returned (.bool (sameL l m)) ∧ Below W.heap.size W W' := by
  have hu := Tryd.underlying25
  have HA := Aside0.mk hA
  have HB := Aside0.mk hB
  have HEL := Aside0.mk hel
  have HML := Aside0.mk hA.2.1
  clear hA hB hel
  obtain ⟨n, hn⟩ : ∃ n, n = l.length := ⟨_, rfl⟩
  obtain ⟨n', hn'⟩ : ∃ n', n' = m.length := ⟨_, rfl⟩
  have HN := Aside0.mk hn
  have HN' := Aside0.mk hn'
  rw [← hn, ← hn']
  rw [← hn] at HML
  clear hn hn'
  go_enter Tryd.func35, Tryd.ntmps35
  by_cases hne : n = n'
  case neg =>
    have d0 : ((n : Int) != (n' : Int)) = true := by simp; omega
    have hf := sameL_len l m (by rw [← HN.out, ← HN'.out]; exact hne)
    clear hne
    go_wp2
    go_ret
    exact ⟨by rw [hf]; rfl, Below.refl _ _⟩
  subst hne
  have d0 : ((n : Int) != (n : Int)) = false := by simp
  go_wp2
  go_loopg [17] n (fun kq v17 wr => ∃ i : Nat, v17 = .int .i64 i ∧ i ≤ n ∧ Aside0 (kq = n - i) ∧ Aside0 (Below W.heap.size W wr) ∧ Aside0 (sameL l m = sameL (l.drop i) (m.drop i)))
  case atStart => exact ⟨0, rfl, Nat.zero_le _, ⟨rfl⟩, ⟨Below.refl _ _⟩, ⟨rfl⟩⟩
  case round =>
    obtain ⟨i, rfl, hi, HK, HW, HS⟩ := hrel
    by_cases hlt : i < n
    case neg =>
      have d1 : decide ((i : Int) < (n : Int)) = false := decide_eq_false (by omega)
      have hin : i = n := by omega
      have hs := HS.out
      rw [List.drop_eq_nil_of_le (by rw [← HN.out]; omega), List.drop_eq_nil_of_le (by rw [← HN'.out]; omega)] at hs
      clear hin
      go_wp2
      go_ret
      exact ⟨by rw [hs]; simp only [sameL]; rfl, HW.out⟩
    have d1 : decide ((i : Int) < (n : Int)) = true := decide_eq_true (by omega)
    have h1 : i < l.length := by rw [← HN.out]; exact hlt
    have h2 : i < m.length := by rw [← HN'.out]; exact hlt
    have hA := Kd.C_below HA.out HW.out
    have hB := Kd.C_below HB.out HW.out
    obtain ⟨ad, A3, c3, rfl, g0, g1, g2, g3, gl, gC⟩ := at_T25 hA (i : Int) (by omega) (by omega)
    obtain ⟨bd, B3, e3, rfl, b0, b1, b2, b3, bl, bC⟩ := at_T25 hB (i : Int) (by omega) (by omega)
    rw [Int.toNat_natCast] at g0 g1 g2 g3 b0 b1 b2 b3
    rw [rd_at25 l i h1] at g0 g1 g2 g3 gl gC
    rw [rd_at25 m i h2] at b0 b1 b2 b3 bl bC
    have HT := Aside0.mk (HEL.out i h1 h2)
    have HSD := Aside0.mk (sameL_drop h1 h2)
    obtain ⟨t, ht⟩ : ∃ t, t = l[i] := ⟨_, rfl⟩
    obtain ⟨u, hu'⟩ : ∃ u, u = m[i] := ⟨_, rfl⟩
    rw [← ht] at g0 g1 g2 g3 gl gC HT HSD
    rw [← hu'] at b0 b1 b2 b3 bl bC HT HSD
    have lt1 := World.block_lt_of_cell? wr _ g0
    have lt2 := World.block_lt_of_cell? wr _ b0
    have GC := Aside0.mk (And.intro gl gC)
    have BC := Aside0.mk (And.intro bl bC)
    clear hA hB ht hu' gl gC bl bC h1 h2
    obtain ⟨X, hX⟩ : ∃ X, X = (wr.alloc (.cells #[.int .u8 t.f0, .int .u8 t.f1, .int .i64 t.f2, .slice A3 t.f3.length c3] 25)).alloc (.cells #[.int .u8 u.f0, .int .u8 u.f1, .int .i64 u.f2, .slice B3 u.f3.length e3] 25) := ⟨_, rfl⟩
    have hbX : Below wr.heap.size wr X := by rw [hX]; exact Below.alloc (below_alloc (Below.refl _ _) _) (by simp) _
    have HCALL := Aside0.mk (HT.out A3 B3 c3 e3 X GC.out.1 BC.out.1 (Kd.C_below GC.out.2 hbX) (Kd.C_below BC.out.2 hbX))
    have HBX := Aside0.mk hbX
    have HX := Aside0.mk hX
    clear hbX hX
    cases hb : sameB t u with
    | true =>
      rw [hb] at HCALL HSD
      clear hb
      go_wp2_with (go_at_call 16; rw [← HX.out]; refine HCALL.out.mono ?_; rintro e w2 ⟨rfl, hb2⟩)
      have HW2 := Aside0.mk (below_step (below_step HW.out HBX.out) hb2)
      clear hb2
      go_roundg (n - (i + 1))
      case measure => have := HK.out; omega
      case rel => exact ⟨i + 1, by rw [show wrap64 ((i : Int) + 1) = ((i + 1 : Nat) : Int) by unfold wrap64; have := HML.out; omega], by omega, ⟨rfl⟩, HW2, ⟨by rw [HS.out, HSD.out, Bool.true_and]⟩⟩
    | false =>
      rw [hb] at HCALL HSD
      clear hb
      go_wp2_with (go_at_call 16; rw [← HX.out]; refine HCALL.out.mono ?_; rintro e w2 ⟨rfl, hb2⟩)
      go_ret
      exact ⟨by rw [HS.out, HSD.out, Bool.false_and]; rfl, below_step (below_step HW.out HBX.out) hb2⟩
set_option maxHeartbeats 4000000 in
set_option maxRecDepth 100000 in
theorem same_step (k w wd : Int) (l : List S25) (u : S25) (hel : ∀ (i : Nat) (h1 : i < l.length) (h2 : i < u.f3.length), SameAt l[i] u.f3[i]) : SameAt ⟨k, w, wd, l⟩ u := by
  intro A B cA cB W hcA hcB hA hB
  have hu := Tryd.underlying25
  obtain ⟨X, hX⟩ : ∃ X, X = (W.alloc (.cells #[.int .u8 k, .int .u8 w, .int .i64 wd, .slice A l.length cA] 25)).alloc (.cells #[.int .u8 u.f0, .int .u8 u.f1, .int .i64 u.f2, .slice B u.f3.length cB] 25) := ⟨_, rfl⟩
  have hbX : Below W.heap.size W X := by rw [hX]; exact Below.alloc (below_alloc (Below.refl _ _) _) (by simp) _
  have HE := Aside0.mk (eqf_calls l u.f3 hel A B cA cB X (Kd.C_below hA hbX) (Kd.C_below hB hbX))
  have HBX := Aside0.mk hbX
  have HX := Aside0.mk hX
  clear hA hB hbX hX hel
  unfold nodeV
  simp only
  have hs : sameB ⟨k, w, wd, l⟩ u = ((k == u.f0) && ((w == u.f1) && ((wd == u.f2) && sameL l u.f3))) := by simp only [sameB]
  have HS := Aside0.mk hs
  clear hs
  go_enter Tryd.func16, Tryd.ntmps16
  cases e0 : k == u.f0 with
  | false =>
    go_wp2
    rw [← HX.out]
    go_ret
    exact ⟨by rw [HS.out, e0]; rfl, HBX.out⟩
  | true =>
  cases e1 : w == u.f1 with
  | false =>
    go_wp2
    rw [← HX.out]
    go_ret
    exact ⟨by rw [HS.out, e0, e1]; rfl, HBX.out⟩
  | true =>
  cases e2 : wd == u.f2 with
  | false =>
    go_wp2
    rw [← HX.out]
    go_ret
    exact ⟨by rw [HS.out, e0, e1, e2]; rfl, HBX.out⟩
  | true =>
    go_wp2_with (go_at_call 35; rw [← HX.out]; refine HE.out.mono ?_; rintro e w2 ⟨rfl, hb2⟩)
    go_ret
    exact ⟨by rw [HS.out, e0, e1, e2]; rfl, below_step HBX.out hb2⟩
theorem same_calls (z : Nat) : ∀ t : S25, SizeOf.sizeOf t < z → ∀ u : S25, SameAt t u := by
  induction z with
  | zero => intro t h; exact absurd h (Nat.not_lt_zero _)
  | succ z ih =>
    rintro ⟨k, w, wd, l⟩ hz u
    refine same_step k w wd l u fun i h1 h2 => ih l[i] ?_ _
    have := List.sizeOf_lt_of_mem (List.getElem_mem h1)
    simp only [S25.mk.sizeOf_spec] at hz
    omega
end Go.Proofs.YtcfeijdcanpflaaDoor.H
