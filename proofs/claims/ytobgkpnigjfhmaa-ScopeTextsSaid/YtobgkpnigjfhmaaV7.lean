/- Texts of this claim, merged. -/
import Derived.Test.YtobgkpnigjfhmaaV6
import Derived.Laws.EntriesVeiled
import Derived.StillTailTactics
set_option maxRecDepth 100000
set_option maxHeartbeats 8000000
set_option linter.unusedVariables false
set_option linter.unusedSimpArgs false
namespace Go.Proofs.Ytobgkpnigjfhmaa.H
open Go.RowKit Go.Proofs.YtobgkpnigjfhmaaW.PrintWords Go.Proofs.YtobgkpnigjfhmaaW.PrintLast Go.Proofs.YtobgkpnigjfhmaaW.PrintMore
theorem tree_Right.calls (a0_0 : Int) (a0_1 : Int) (a0_2 : Int) (A0_3 : Option Addr) (c0_3 : Nat) (l0_3 : List S24) (r : Bool) (w : World) (hr0_3 : Kd.C k24 w A0_3 l0_3.length l0_3) (hc0_3 : l0_3.length ≤ c0_3) (h : tree_Right.f a0_0 a0_1 a0_2 l0_3 = some r) :
  Calls Try.prog 49 #[.agg #[.int .u8 a0_0, .int .u8 a0_1, .int .i64 a0_2, .slice A0_3 l0_3.length c0_3]] w fun e w' => e = .returned (.bool r) ∧ Below w.heap.size w w' := by
 have HR := J (Option.some.inj h); clear h; have HF := J (Kd.C_F heap24 hr0_3); have HC := J hc0_3; clear hr0_3 hc0_3; have hu := Try.underlying24; go_enter Try.func49, Try.ntmps49
 go_wp2_with fail
 obtain ⟨W1, hW1⟩ : ∃ W1, W1 = ((w.alloc (.cells #[.int .u8 a0_0, .int .u8 a0_1, .int .i64 a0_2, .slice A0_3 l0_3.length c0_3] 24)).alloc (.cells #[.int .i64 0] 3)).alloc (.cells #[mayV (w.heap.size + 1) (w.heap.size + 1 + 1)] 120) := ⟨_, rfl⟩; have HB1 := J (show Below w.heap.size w W1 by
  rw [hW1]; exact Below.alloc (Below.alloc (zad (Below.refl _ _) _) qf _) (by simp; omega) _)
 have h3 : W1.heap[w.heap.size + 1]? = some (one1 (.int .i64 0) 3) := by
  rw [hW1, Below.heap_alloc _ _ _ qf]
  have := heap_alloc_new (w.alloc (.cells #[.int .u8 a0_0, .int .u8 a0_1, .int .i64 a0_2, .slice A0_3 l0_3.length c0_3] 24)) (.cells #[.int .i64 0] 3)
  simpa using this
 have h4 : W1.heap[w.heap.size + 1 + 1]? = some (one1 (mayV (w.heap.size + 1) (w.heap.size + 1 + 1)) 120) := by
  rw [hW1]; have := heap_alloc_new ((w.alloc (.cells #[.int .u8 a0_0, .int .u8 a0_1, .int .i64 a0_2, .slice A0_3 l0_3.length c0_3] 24)).alloc (.cells #[.int .i64 0] 3)) (.cells #[mayV (w.heap.size + 1) (w.heap.size + 1 + 1)] 120)
  simpa using this
 have hF1 : Kd.F k24 W1 (fun k => k ≠ w.heap.size + 1) A0_3 l0_3.length l0_3 := Kd.F_mono (Kd.F_below HF.out HB1.out) (fun k hk => q9)
 change Calls Try.prog 65 _ (((w.alloc (.cells #[.int .u8 a0_0, .int .u8 a0_1, .int .i64 a0_2, .slice A0_3 l0_3.length c0_3] 24)).alloc (.cells #[.int .i64 0] 3)).alloc (.cells #[mayV (w.heap.size + 1) (w.heap.size + 1 + 1)] 120)) _
 rw [← hW1]; clear hW1; refine (may_calls (SizeOf.sizeOf (⟨a0_0, a0_1, a0_2, l0_3⟩ : S24) + 1) ⟨a0_0, a0_1, a0_2, l0_3⟩ (Nat.lt_succ_self _) 1 0 A0_3 c0_3 W1 (w.heap.size + 1) (w.heap.size + 1 + 1) q9 h3 h4 hF1 HC.out).mono ?_
 rintro e W2 ⟨rfl, hg, _⟩
 rw [HR.out]; have HB2 := J (HB1.out.grown hg HB1.out.size (fun k hk => by injection hk with hk; omega))
 clear h3 h4 hF1 hg; go_wp2
 go_ret
 exact ⟨rfl, HB2.out⟩
theorem wpL_app {P : Program} {w w' : World} {ops : Array Oper} {rest : List Oper} {o : Oper} {a : Act} {Q : Exit → Act → World → Prop} {v' : Value}
  (hg : o.guard = none) (s x : Operand) (t : TypeId) (hop : o.op = Op.call { callee := Callee.builtin Builtin.append, args := #[s, x], argTypes := #[t, t] })
  (hrun : (Builtin.append_ #[t, t] o.type #[a.eval s, a.eval x]).run P w = .ok v' w') (hK : wpList P ops Q rest (a.put o.dst v') w') : wpList P ops Q (o :: rest) a w := by
 refine wpList_plain hg fun K hK' => ?_
 unfold Oper.wp execOp
 simp only [hop, resolve, invoke, builtin, Sem.run_bind, Sem.run_pure, Result.andThen_ok, List.map_toArray, List.map_cons, List.map_nil, hrun]; exact hK' _ _ hK
abbrev Sn := AT × Int × Int
abbrev rawS (x : Sn) : List Value := [.int .u8 x.1.k, .int .u8 x.1.w, .int .i64 x.1.wd, .slice x.1.A x.1.kids.length x.1.c, .int .i64 x.2.1, .int .i64 (x.2.1 + x.1.wd), .int .i64 x.2.2]
mutual
def nT : AT → Nat
 | .node _ _ _ _ _ kids => 1 + nL kids
def nL : List AT → Nat
 | [] => 0
 | T :: r => nT T + nL r
end
mutual
theorem nT_eq : ∀ T : AT, nT T = tsize T.erase
 | .node k w wd A c kids => by simp only [nT, AT.erase, tsize, nL_eq kids]
theorem nL_eq : ∀ l : List AT, nL l = lsize (zbr l)
 | [] => rfl
 | T :: r => by simp only [nL, zbr, lsize, nT_eq T, nL_eq r]
end
def wdL : List AT → Int
 | [] => 0
 | T :: r => T.wd + wdL r
mutual
def seenT : AT → Int → Int → Int → List Sn
 | .node k w wd A c kids, f, up, me => (.node k w wd A c kids, f, up) :: seenL kids f me (me + 1)
def seenL : List AT → Int → Int → Int → List Sn
 | [], _, _, _ => []
 | T :: r, f, up, me => seenT T f up me ++ seenL r (f + T.wd) up (me + nT T)
end
mutual
theorem zbK : ∀ (T : AT) (f up me : Int), (seenT T f up me).length = nT T
 | .node k w wd A c kids, f, up, me => by
  simp only [seenT, nT, List.length_cons, seenL_len kids]; omega
theorem seenL_len : ∀ (l : List AT) (f up me : Int), (seenL l f up me).length = nL l
 | [], f, up, me => rfl
 | T :: r, f, up, me => by simp only [seenL, nL, List.length_append, zbK T, seenL_len r]
end
theorem nL_take : ∀ (l : List AT) (i : Nat) (T : AT), l[i]? = some T → nL (l.take (i + 1)) = nL (l.take i) + nT T
 | [], i, T, h => by simp at h
 | x :: r, 0, T, h => by simp at h; subst h; simp [nL]
 | x :: r, i + 1, T, h => by
  have := nL_take r i T (by simpa using h)
  simp only [List.take_succ_cons, nL, this]; omega
theorem nL_mono : ∀ (l : List AT) (i : Nat), nL (l.take i) ≤ nL l
 | [], i => by simp
 | x :: r, 0 => by simp [nL]
 | x :: r, i + 1 => by
  have := nL_mono r i; simp only [List.take_succ_cons, nL]; omega
theorem nL_len : ∀ (l : List AT), l.length ≤ nL l
 | [] => Nat.le_refl _
 | .node k w wd A c kids :: r => by
  have := nL_len r; simp only [nL, nT, List.length_cons]; omega
theorem wdL_take : ∀ (l : List AT) (i : Nat) (T : AT), l[i]? = some T → wdL (l.take (i + 1)) = wdL (l.take i) + T.wd
 | [], i, T, h => by simp at h
 | x :: r, 0, T, h => by simp at h; subst h; simp [wdL]
 | x :: r, i + 1, T, h => by
  have := wdL_take r i T (by simpa using h)
  simp only [List.take_succ_cons, wdL, this]; omega
theorem seenL_take : ∀ (l : List AT) (i : Nat) (T : AT) (f up me : Int), l[i]? = some T → seenL (l.take (i + 1)) f up me = seenL (l.take i) f up me ++ seenT T (f + wdL (l.take i)) up (me + nL (l.take i))
 | [], i, T, f, up, me, h => by simp at h
 | x :: r, 0, T, f, up, me, h => by simp at h; subst h; simp [seenL, wdL, nL]
 | x :: r, i + 1, T, f, up, me, h => by
  have := seenL_take r i T (f + x.wd) up (me + nT x) (by simpa using h)
  simp only [List.take_succ_cons, seenL, this, wdL, nL, List.append_assoc, Int.add_assoc, Int.natCast_add]
theorem good_kids : ∀ (l : List AT), goodL (zbr l) → wsum (zbr l) = wdL l ∧ (∀ i, 0 ≤ wdL (l.take i) ∧ wdL (l.take i) ≤ wdL l) ∧ ∀ T ∈ l, goodT T.erase
 | [], _ => ⟨rfl, fun i => by simp [wdL], fun T h => by cases h⟩
 | x :: r, h => by
  simp only [zbr, goodL] at h; obtain ⟨h1, h2, h3⟩ := good_kids r h.2; have hx := (h.1.w); have hf : x.erase.f2 = x.wd := by cases x; rfl
  rw [hf] at hx; refine ⟨by simp only [zbr, wsum, wdL, h1, hf], fun i => ?_, fun T hT => ?_⟩
  ·cases i with
   | zero => have := h2 r.length; rw [List.take_length] at this; simp only [List.take_zero, wdL]; omega
   | succ i => have := h2 i; simp only [List.take_succ_cons, wdL]; omega
  ·rcases List.mem_cons.1 hT with rfl | hT
   ·exact h.1
   ·exact h3 T hT
theorem good_node {k w wd : Int} {A : Option Addr} {c : Nat} {kids : List AT} (h : goodT (AT.node k w wd A c kids).erase) : (0 ≤ wd ∧ wd ≤ 1099511627776) ∧ goodL (zbr kids) ∧ (∀ i, 0 ≤ wdL (kids.take i) ∧ wdL (kids.take i) ≤ wd) ∧ ∀ T ∈ kids, goodT T.erase := by
 simp only [AT.erase, goodT] at h; obtain ⟨h1, h2, h3⟩ := good_kids kids h.2.2.2.2; refine ⟨h.1, h.2.2.2.2, fun i => ?_, h3⟩
 by_cases hk : k ≤ 50
 ·have hn := h.2.1 hk
  have hn2 : kids = [] := by
   have := zbj kids; rw [hn] at this; exact List.length_eq_zero_iff.1 this.symm
  subst hn2; simp [wdL]; exact h.1.1
 ·have := h2 i
  have e := h.2.2.1 q9
  omega
theorem infoSeen20 : (Try.prog.info? 113).map (fun i => (i.zero, i.size, i.bytes)) = some (some (.agg #[.int .u8 0, .int .u8 0, .int .i64 0, .slice none 0 0, .int .i64 0, .int .i64 0, .int .i64 0]), 7, 64) := by kernel_rfl
def OwnR (W W' : World) (v v' : Value) : Prop := W.grownBy W' v.ownBlock ∧ (v'.ownBlock = v.ownBlock ∨ ∃ b, v'.ownBlock = some b ∧ W.heap.size ≤ b)
theorem OwnR.trans {W W1 W2 : World} {v v1 v2 : Value} (h : OwnR W W1 v v1) (h2 : OwnR W1 W2 v1 v2) : OwnR W W2 v v2 := by
 obtain ⟨g1, o1⟩ := h; obtain ⟨g2, o2⟩ := h2; refine ⟨?_, ?_⟩
 ·rcases o1 with h | ⟨b, h, hb⟩
  ·exact World.grownBy.trans g1 (by rw [← h]; exact g2)
  ·exact ⟨g2.os.trans g1.os, g2.tape.trans g1.tape, g2.output.trans g1.output, Nat.le_trans g1.size g2.size, fun q hq hr => (g2.block q (Nat.lt_of_lt_of_le hq g1.size) (fun e => by rw [h] at e; injection e with e; omega)).trans (g1.block q hq hr)⟩
 ·rcases o2 with h | ⟨b, h, hb⟩
  ·rw [h]; exact o1
  ·exact .inr ⟨b, h, Nat.le_trans g1.size hb⟩
theorem OwnR.low {W0 W W' : World} {v v' : Value} {B0 : Nat} (h : OwnR W W' v v') (hl : Below W0.heap.size W0 W) (hB : W0.heap.size ≤ B0) (hv : ∀ k, v.ownBlock = some k → B0 ≤ k) : Below W0.heap.size W0 W' :=
 hl.grown h.1 hl.size (fun k hk => Nat.le_trans hB (hv k hk))
theorem zbL {n : Nat} {W0 W X : World} (h : Below n W0 W) (hX : Below W.heap.size W X) (hn : n ≤ W.heap.size) : Below n W0 X := h.grown (grown_of_below hX none) hn (fun k hk => by cases hk)
theorem rall_calls (W0 : World) (B0 : Nat) (hB0 : W0.heap.size ≤ B0) (z : Nat) : ∀ (T : AT), SizeOf.sizeOf T < z → AtT W0 T → goodT T.erase → ∀ (f up : Int) (v : Value) (L : List Sn) (W : World), Below W0.heap.size W0 W → B0 ≤ W.heap.size →
  Kd.R (Kd.raw 7) 113 W B0 (fun q => B0 ≤ q) v (L.map rawS) → 0 ≤ f → f + T.wd ≤ 1099511627776 → L.length + nT T ≤ 1000000 →
  Calls Try.prog 55 #[v, T.val, .int .i64 f, .int .i64 up] W fun e W' => ∃ v', e = .returned v' ∧ Kd.R (Kd.raw 7) 113 W' B0 (fun q => B0 ≤ q) v' ((L ++ seenT T f up L.length).map rawS) ∧ OwnR W W' v v' := by
 induction z with
 | zero => intro T h; exact absurd h (Nat.not_lt_zero _)
 | succ z ih =>
 rintro ⟨k, w1, wd, A, c, kids⟩ hz hT hgd f up v L W hlow hB hR hf hfw hlen
 simp only [AT.val, AT.k, AT.w, AT.wd, AT.A, AT.c, AT.kids] at hfw ⊢; obtain ⟨hwd, _, hpre, hkg⟩ := good_node hgd; have IH := J ih; have HZ := J hz; have HT := J hT; have HLOW := J hlow; have HB := J hB; simp only [nT] at hlen; have HLEN := J hlen; have HPRE := J hpre; have HKG := J hkg; have HFW := J (And.intro hf hfw); have hw1 : IntKind.i64.wrap (f + wd) = f + wd := IntWalk.i64_in _ ⟨q9, q9⟩
 obtain ⟨to_, hto⟩ : ∃ to_, to_ = f + wd := ⟨_, rfl⟩; rw [← hto] at hw1; obtain ⟨X, hX⟩ : ∃ V, V = W.alloc (.cells #[.int .u8 k, .int .u8 w1, .int .i64 wd, .slice A kids.length c] 24) := ⟨_, rfl⟩; have hbX : Below W.heap.size W X := by rw [hX]; exact zad (Below.refl _ _) _
 have HBX := J hbX; have HK := J (show X.heap[W.heap.size]? = some (.cells #[.int .u8 k, .int .u8 w1, .int .i64 wd, .slice A kids.length c] 24 (0, 0)) by rw [hX]; exact heap_alloc_new _ _)
 have HRX := J (Kd.zbx hR hbX); have HVL := J (show ∀ q, v.ownBlock = some q → q < W.heap.size from fun q hq => by have := (Kd.R_bound hR).1 q hq; exact this.2.2.1)
 have HVB := J (show ∀ q, v.ownBlock = some q → B0 ≤ q from hR.1)
 obtain ⟨Av, cv, rfl⟩ := Kd.za4 hR; rw [List.length_map] at *; have hu := Try.underlying24; have hup := Try.underlying113; have hus := Try.underlying60; obtain ⟨x, hx⟩ : ∃ x : Sn, x = (AT.node k w1 wd A c kids, f, up) := ⟨_, rfl⟩; have hxr : rawS x = [.int .u8 k, .int .u8 w1, .int .i64 wd, .slice A kids.length c, .int .i64 f, .int .i64 to_, .int .i64 up] := by rw [hx, hto]; rfl
 obtain ⟨Y, hY⟩ : ∃ V, V = X.alloc (.cells #[.int .u8 k, .int .u8 w1, .int .i64 wd, .slice A kids.length c, .int .i64 f, .int .i64 to_, .int .i64 up] 113) := ⟨_, rfl⟩; have hbY : Below X.heap.size X Y := by rw [hY]; exact zad (Below.refl _ _) _
 obtain ⟨g, cap, w5, hrun, hg5, hgo5, hbg5, hnl, hR5⟩ := zbN (Kd.raw 7) 113 110 HRX.out (by have := HB.out; have := HBX.out.size; omega) (fun q hq => by have := HB.out; have := HBX.out.size; omega) Try.underlying110 infoSeen20 rfl qe qe (by rw [List.length_map]; have := HLEN.out; omega) hbY (rawS x) (rawS x) (by rw [hY, hxr]; exact heap_alloc_new _ _) ⟨rfl, rfl, by rw [hxr]; intro u hu; simp at hu; rcases hu with rfl | rfl | rfl | rfl | rfl | rfl | rfl <;> rfl⟩ rfl (by rw [hxr]; intro u hu; simp at hu; rcases hu with rfl | rfl | rfl | rfl | rfl | rfl | rfl <;> rfl)
 rw [hY] at hrun; have HOW5 := J (show OwnR X w5 (.slice Av L.length cv) (.slice (some ⟨g, 0, none⟩) (L.length + 1) cap) from ⟨hg5, hgo5.imp (fun h => by rw [h]; rfl) (fun h => ⟨g, rfl, h⟩)⟩)
 have HR5 := J (show Kd.R (Kd.raw 7) 113 w5 B0 (fun q => B0 ≤ q) (.slice (some ⟨g, 0, none⟩) (L.length + 1) cap) ((L ++ [x]).map rawS) by rw [List.map_append, List.map_singleton]; exact hR5)
 have l1 := zaN HK.out; have hK5 : w5.heap[W.heap.size]? = some (.cells #[.int .u8 k, .int .u8 w1, .int .i64 wd, .slice A kids.length c] 24 (0, 0)) := (hg5.block _ l1 (fun e => by have := HVL.out _ e.symm; omega)).trans HK.out
 have HK5 := J hK5; have HHX := J hx; have HTO := J hto; clear ih hz hT hlow hB hR hbX hlen hpre hkg hgd hwd hf hfw hto hbY hg5 hgo5 hR5 hx hxr hK5 hnl hbg5 hY; go_enter Try.func55, Try.ntmps55
 go_upto_region 1 with (fail)
 change Code.wp Try.prog _ _ _ (W.alloc (.cells #[.int .u8 k, .int .u8 w1, .int .i64 wd, .slice A kids.length c] 24))
 rw [← hX]; clear hX; have p0 := zaf HK.out 0; have p1 := zaf HK.out 1; have p2 := zaf HK.out 2; have p3 := zaf HK.out 3; simp at p0 p1 p2 p3; have hw2 : IntKind.i64.wrap (f + wd) = to_ := by rw [HTO.out]; rw [HTO.out] at hw1; exact hw1
 go_upto_region 3 with (at_builtin; refine wpL_app rfl _ _ _ rfl hrun ?_)
 obtain ⟨V1, hV1⟩ : ∃ V1, V1 = Value.slice (some ⟨g, 0, none⟩) (L.length + 1) cap := ⟨_, rfl⟩; rw [← hV1] at HR5 HOW5; rw [← hV1]; clear p0 p1 p2 p3 l1 hrun hV1 hw1 hw2; have HVB2 := J (show ∀ w' v', OwnR X w' (.slice Av L.length cv) v' → Below W0.heap.size W0 w' ∧ w'.heap[W.heap.size]? = some (.cells #[.int .u8 k, .int .u8 w1, .int .i64 wd, .slice A kids.length c] 24 (0, 0)) ∧ B0 ≤ w'.heap.size from fun w' v' h => ⟨h.low (zbL HLOW.out HBX.out HLOW.out.size) hB0 HVB.out, (h.1.block _ (zaN HK.out) (fun e => by have := HVL.out _ e.symm; omega)).trans HK.out, by have := HB.out; have := HBX.out.size; have := h.1.size; omega⟩)
 go_wp2
 go_loopg [0, 2, 10] kids.length (fun kq v0 v2 v10 w' => ∃ (i : Nat) (vv : Value), vv = v0 ∧ v2 = .int .i64 (f + wdL (kids.take i)) ∧ v10 = .int .i64 i ∧ i ≤ kids.length ∧ zaa (kq = kids.length - i) ∧ zaa (Kd.R (Kd.raw 7) 113 w' B0 (fun q => B0 ≤ q) v0 ((L ++ ([x] ++ seenL (kids.take i) f L.length (L.length + 1))).map rawS)) ∧ zaa (OwnR X w' (.slice Av L.length cv) v0))
 case atStart => exact ⟨0, _, rfl, by simp [wdL], rfl, Nat.zero_le _, ⟨rfl⟩, ⟨by rw [List.take_zero, seenL, List.append_nil]; exact HR5.out⟩, HOW5⟩
 case round =>
  obtain ⟨i, vv, rfl, rfl, rfl, hi, HKQ, HRI, HOI⟩ := hrel; obtain ⟨hlw, hkw, hbw⟩ := HVB2.out _ _ HOI.out; have HLW := J hlw; have HKW := J hkw; have HBW := J hbw; clear hlw hbw; have p3 := zaf hkw 3; have l1 := zaN hkw; simp at p3; clear hkw; have hlk : kids.length ≤ 1000000 := by have := nL_len kids; have := HLEN.out; omega
  by_cases hlt : i < kids.length
  ·obtain ⟨adk, rfl, hw0, hTk⟩ := AtT.kid HT.out i hlt
   obtain ⟨T, hTe⟩ : ∃ T, T = kids[i] := ⟨_, rfl⟩; rw [← hTe] at hw0 hTk; have hie : kids[i]? = some T := by rw [hTe]; exact List.getElem?_eq_getElem hlt
   have HTK := J hTk; have HTE := J hTe; have HTG := J (HKG.out T (List.mem_of_getElem? hie)); have HSZ := J (show SizeOf.sizeOf T < z by have := List.sizeOf_lt_of_mem (List.mem_of_getElem? hie); have := HZ.out; simp at this; omega)
   have hs1 := nL_take kids i T hie; have hs2 := nL_mono kids (i + 1); have hwt := wdL_take kids i T hie; have hp0 := HPRE.out i; have hp1 := HPRE.out (i + 1); have hfw := HFW.out; have htw := HTG.out.w; have hf2 : T.erase.f2 = T.wd := by cases T; rfl
   rw [hf2] at htw; obtain ⟨q0, q1, q2, q3⟩ := hw0.below HLW.out; have hlen := HLEN.out; have HE := J hwt; have HEP := J (seenL_take kids i T f L.length (L.length + 1) hie); have hsl := seenL_len (kids.take i) f L.length (L.length + 1); have HNL := J (show ((L ++ ([x] ++ seenL (kids.take i) f L.length (L.length + 1))).length : Int) = (L.length : Int) + 1 + nL (kids.take i) by simp only [List.length_append, List.length_singleton, hsl]; omega)
   have hcall := IH.out T HSZ.out HTK.out HTG.out (f + wdL (kids.take i)) L.length vv (L ++ ([x] ++ seenL (kids.take i) f L.length (L.length + 1))) wr HLW.out HBW.out HRI.out q9 q9 (by have := HNL.out; omega)
   simp only [AT.val] at hcall; have hwp : IntKind.i64.wrap (f + wdL (kids.take i) + T.wd) = f + wdL (kids.take i) + T.wd := IntWalk.i64_in _ ⟨q9, q9⟩
   have HWP := J hwp; clear hie hTk hTe hw0 hs1 hs2 hwt hp0 hp1 hfw htw hf2 hlen hsl hwp; go_upto_region 7 with (go_at_call 55; refine hcall.mono ?_; rintro e w5 ⟨v5, rfl, hR5, hO5⟩; have HR6 := J hR5; have HO6 := J hO5; clear hR5 hO5 hcall)
   have HO7 := J (HOI.out.trans HO6.out); obtain ⟨hlw5, hkw5, hbw5⟩ := HVB2.out _ _ HO7.out; clear p3 l1 q0 q1 q2 q3; have p3 := zaf hkw5 3; have l1 := zaN hkw5; simp at p3; obtain ⟨adk2, hadk2, hw02, _⟩ := AtT.kid HT.out i hlt; obtain rfl := Option.some.inj hadk2; rw [← HTE.out] at hw02; obtain ⟨q0, q1, q2, q3⟩ := hw02.below hlw5; have hwp := HWP.out; clear hw02 hkw5 hbw5 hlw5 hadk2; go_wp2
   go_roundg (kids.length - (i + 1))
   case measure => have := HKQ.out; omega
   case rel => exact ⟨i + 1, _, rfl, by rw [HE.out, Int.add_assoc], qk, q9, ⟨rfl⟩, ⟨by rw [HEP.out, ← HNL.out, ← List.append_assoc [x], ← List.append_assoc L]; exact HR6.out⟩, HO7⟩
  ·obtain rfl : i = kids.length := by omega
   rw [List.take_length] at *; go_wp2
   go_ret
   refine ⟨_, rfl, ?_, ?_⟩
   ·rw [seenT, ← HHX.out]
    exact HRI.out
   ·exact ⟨World.grownBy.trans (grown_of_below HBX.out _) HOI.out.1, HOI.out.2.imp id (fun ⟨b, h1, h2⟩ => ⟨b, h1, Nat.le_trans HBX.out.size h2⟩)⟩
theorem seen_at {W : World} {A : Option Addr} {L : List Sn} (h : Kd.C (Kd.raw 7) W A (L.map rawS).length (L.map rawS)) (i : Nat) (x : Sn) (hx : L[i]? = some x) : ∃ ad, A = some ad ∧ W.cell? (ad.add (i * 7)) = some (.int .u8 x.1.k) ∧ W.cell? ⟨(ad.add (i * 7)).block, (ad.add (i * 7)).off + 4, none⟩ = some (.int .i64 x.2.1) ∧ W.cell? ⟨(ad.add (i * 7)).block, (ad.add (i * 7)).off + 5, none⟩ = some (.int .i64 (x.2.1 + x.1.wd)) ∧ W.cell? ⟨(ad.add (i * 7)).block, (ad.add (i * 7)).off + 6, none⟩ = some (.int .i64 x.2.2) := by
 have hi : i < L.length := (List.getElem?_eq_some_iff.1 hx).1; obtain ⟨ad, c, e, _, hK, hc0⟩ := Kd.C_get h [] (i : Int) q9 (by simpa using hi)
 have hc : ∀ j u, c[j]? = some u → W.cell? (ad.add (i * 7 + j)) = some u := fun j u hu => by have := hc0 j u hu; rw [Int.toNat_natCast] at this; exact this
 have hc' : c = rawS x := by
  have h1 := hK.1; rw [h1, Int.toNat_natCast, List.getD_eq_getElem?_getD, List.getElem?_map, hx]
  rfl
 subst hc'; exact ⟨ad, e, by simpa using hc 0 _ rfl, by rw [← zbm _ _ 4 q9]; exact hc 4 _ rfl, by rw [← zbm _ _ 5 q9]; exact hc 5 _ rfl, by rw [← zbm _ _ 6 q9]; exact hc 6 _ rfl⟩
structure SnOk (L : List Sn) (n : Int) : Prop where
 up : ∀ (i : Nat) x, L[i]? = some x → (i = 0 → x.2.2 = -1) ∧ (0 < i → 0 ≤ x.2.2) ∧ x.2.2 < i
 sp : ∀ (i : Nat) x, L[i]? = some x → 0 ≤ x.2.1 ∧ 0 ≤ x.1.wd ∧ x.2.1 + x.1.wd ≤ n
 root : ∀ x, L[0]? = some x → x.1.k = 51
mutual
theorem seenT_at : ∀ (T : AT) (f up me : Int), goodT T.erase → 0 ≤ f → up < me → ∀ (j : Nat) x, (seenT T f up me)[j]? = some x → (j = 0 → x = (T, f, up)) ∧ (0 < j → me ≤ x.2.2) ∧ x.2.2 < me + j ∧ f ≤ x.2.1 ∧ 0 ≤ x.1.wd ∧ x.2.1 + x.1.wd ≤ f + T.wd
 | .node k w wd A c kids, f, up, me, hg, hf, hu, j, x, hx => by
  obtain ⟨hw, hgl, hp, _⟩ := good_node hg; have hwd : (AT.node k w wd A c kids).wd = wd := rfl; rw [hwd]; cases j with
  | zero =>
   simp only [seenT, List.getElem?_cons_zero, Option.some.injEq] at hx; subst hx; exact ⟨fun _ => rfl, fun h => absurd h (Nat.lt_irrefl _), by simpa using hu, Int.le_refl _, hw.1, Int.le_refl _⟩
  | succ j =>
   simp only [seenT, List.getElem?_cons_succ] at hx; obtain ⟨h1, h2, h3, h4, h5⟩ := seenL_at kids f me (me + 1) hgl hf q9 j x hx
   have hpl := hp kids.length; rw [List.take_length] at hpl; exact ⟨fun h => absurd h (Nat.succ_ne_zero _), fun _ => h1, q9, h3, h4, q9⟩
theorem seenL_at : ∀ (l : List AT) (f up me : Int), goodL (zbr l) → 0 ≤ f → up < me → ∀ (j : Nat) x, (seenL l f up me)[j]? = some x → up ≤ x.2.2 ∧ x.2.2 < me + j ∧ f ≤ x.2.1 ∧ 0 ≤ x.1.wd ∧ x.2.1 + x.1.wd ≤ f + wdL l
 | [], f, up, me, hg, hf, hu, j, x, hx => by simp [seenL] at hx
 | T :: r, f, up, me, hg, hf, hu, j, x, hx => by
  simp only [zbr, goodL] at hg; have hT := hg.1.w; have hf2 : T.erase.f2 = T.wd := by cases T; rfl
  rw [hf2] at hT; have hr := (good_kids r hg.2).2.1 r.length; rw [List.take_length] at hr; simp only [seenL] at hx; simp only [wdL]; by_cases hj : j < nT T
  ·rw [List.getElem?_append_left (by rw [zbK]; exact hj)] at hx
   obtain ⟨h0, h1, h2, h3, h4, h5⟩ := seenT_at T f up me hg.1 hf hu j x hx; refine ⟨?_, h2, h3, h4, q9⟩
   by_cases hz : j = 0
   ·rw [h0 hz]; exact Int.le_refl _
   ·have := h1 q9; omega
  ·rw [List.getElem?_append_right (by rw [zbK]; omega), zbK] at hx
   obtain ⟨h1, h2, h3, h4, h5⟩ := seenL_at r (f + T.wd) up (me + nT T) hg.2 q9 q9 (j - nT T) x hx
   exact ⟨h1, q9, q9, h4, q9⟩
end
theorem seen_ok (T : AT) (hg : goodT T.erase) (hk : T.k = 51) : SnOk (seenT T 0 (-1) 0) T.wd := by
 have h := seenT_at T 0 (-1) 0 hg (Int.le_refl _) q9
 refine ⟨fun i x hx => ?_, fun i x hx => ?_, fun x hx => ?_⟩
 ·obtain ⟨h0, h1, h2, _⟩ := h i x hx
  exact ⟨fun e => by rw [h0 e], h1, q9⟩
 ·obtain ⟨_, _, _, h3, h4, h5⟩ := h i x hx
  exact ⟨h3, h4, q9⟩
 ·obtain ⟨h0, _⟩ := h 0 x hx
  rw [h0 rfl]; exact hk
def homeN (L : List Sn) : Nat → Int → Int
 | 0, k => k
 | n + 1, k => if k < 0 then k else match L[k.toNat]? with
  | none => k
  | some x => if x.1.k = 52 ∨ x.1.k = 51 then k else homeN L n x.2.2
def homeK (L : List Sn) (k : Int) : Int := homeN L (k.toNat + 1) k
theorem homeN_fuel {L : List Sn} {n : Int} (h : SnOk L n) : ∀ (m : Nat) (k : Int) (m' : Nat), k.toNat < m → k.toNat < m' → homeN L m k = homeN L m' k
 | 0, k, m', h1, h2 => absurd h1 (Nat.not_lt_zero _)
 | m + 1, k, 0, h1, h2 => absurd h2 (Nat.not_lt_zero _)
 | m + 1, k, m' + 1, h1, h2 => by
  simp only [homeN]; by_cases hk : k < 0
  ·rw [if_pos hk, if_pos hk]
  ·rw [if_neg hk, if_neg hk]
   cases hx : L[k.toNat]? with
   | none => rfl
   | some x =>
    simp only
    split
    ·rfl
    ·rename_i hne
     have hu := h.up k.toNat x hx; by_cases hz : k.toNat = 0
     ·exact absurd (Or.inr (h.root x (by rw [← hz]; exact hx))) hne
     ·have := hu.2.1 q9
      exact homeN_fuel h m x.2.2 m' q9 q9
theorem homeK_step {L : List Sn} {n : Int} (h : SnOk L n) {k : Nat} {x : Sn} (hx : L[k]? = some x) : homeK L k = if x.1.k = 52 ∨ x.1.k = 51 then (k : Int) else homeK L x.2.2 := by
 unfold homeK
 rw [Int.toNat_natCast]
 conv => lhs; unfold homeN
 rw [if_neg q9, Int.toNat_natCast, hx]
 simp only; by_cases hc : x.1.k = 52 ∨ x.1.k = 51
 ·rw [if_pos hc, if_pos hc]
 ·rw [if_neg hc, if_neg hc]
  have hu := h.up k x hx; by_cases hz : k = 0
  ·exact absurd (Or.inr (h.root x (by rw [← hz]; exact hx))) hc
  ·have := hu.2.1 q9
   exact homeN_fuel h _ _ _ q9 q9
theorem homeK_mem {L : List Sn} {n : Int} (h : SnOk L n) (m : Nat) : ∀ (k : Nat), k < m → k < L.length → 0 ≤ homeK L k ∧ homeK L k ≤ k := by
 induction m with
 | zero => intro k h1; exact absurd h1 (Nat.not_lt_zero _)
 | succ m ih =>
  intro k h1 h2
  obtain ⟨x, hx⟩ : ∃ x, L[k]? = some x := ⟨_, List.getElem?_eq_getElem h2⟩; rw [homeK_step h hx]; by_cases hc : x.1.k = 52 ∨ x.1.k = 51
  ·rw [if_pos hc]; omega
  ·rw [if_neg hc]
   have hu := h.up k x hx; by_cases hz : k = 0
   ·exact absurd (Or.inr (h.root x (by rw [← hz]; exact hx))) hc
   ·have h0 := hu.2.1 q9
    have := ih x.2.2.toNat q9 q9
    rw [Int.toNat_of_nonneg h0] at this; omega
theorem home_calls {L : List Sn} {n : Int} (hok : SnOk L n) (A : Option Addr) (c : Nat) (W : World) (hC : Kd.C (Kd.raw 7) W A (L.map rawS).length (L.map rawS)) (i : Nat) (x : Sn) (hx : L[i]? = some x) (hi : 0 < i) :
  Calls Try.prog 56 #[.slice A L.length c, .int .i64 i] W fun e W' => e = .returned (.int .i64 (homeK L x.2.2)) ∧ Below W.heap.size W W' := by
 have HC := J hC; have HOK := J hok; have hui := hok.up i x hx; have hli : i < L.length := (List.getElem?_eq_some_iff.1 hx).1; obtain ⟨ad, hA, _, _, _, q6⟩ := seen_at hC i x hx; subst hA; have hus := Try.underlying113; have hun := Try.underlying24; obtain ⟨u, hu⟩ : ∃ u : Nat, x.2.2 = u := ⟨x.2.2.toNat, by have := hui.2.1 hi; omega⟩
 have HU := J (show u < L.length by omega)
 obtain ⟨r, hr⟩ : ∃ r, r = homeK L u := ⟨_, rfl⟩; rw [hu] at q6 ⊢; rw [← hr]; have HR := J hr.symm; clear hC hok hui hu hr; go_enter Try.func56, Try.ntmps56
 go_wp2
 clear q6; go_loopg [5] u (fun kq v5 w' => ∃ (k : Nat), v5 = .int .i64 k ∧ k < L.length ∧ zaa (kq = k) ∧ zaa (Below W.heap.size W w') ∧ zaa (homeK L k = r))
 case atStart => exact ⟨u, rfl, HU.out, ⟨rfl⟩, ⟨Below.refl _ _⟩, HR⟩
 case round =>
  obtain ⟨k, rfl, hk, HKQ, HB, HK⟩ := hrel; obtain ⟨y, hy⟩ : ∃ y, L[k]? = some y := ⟨_, List.getElem?_eq_getElem hk⟩; obtain ⟨ad2, hA2, q0, _, _, q6⟩ := seen_at (Kd.za1 HC.out HB.out) k y hy; obtain rfl := Option.some.inj hA2; have hst := homeK_step HOK.out hy; rw [HK.out] at hst; have huy := HOK.out.up k y hy; by_cases h52 : y.1.k = 52
  ·have e1 : (y.1.k != 52) = false := by simp [h52]
   have HF := J (show r = (k : Int) by rw [hst, if_pos (.inl h52)])
   clear h52 hst hy huy hA2; go_wp2
   go_ret
   exact ⟨by rw [HF.out]; rfl, HB.out⟩
  ·by_cases h51 : y.1.k = 51
   ·have e1 : (y.1.k != 52) = true := by simp [h52]
    have e2 : (y.1.k != 51) = false := by simp [h51]
    have HF := J (show r = (k : Int) by rw [hst, if_pos (.inr h51)])
    clear h52 h51 hst hy huy hA2; go_wp2
    go_ret
    exact ⟨by rw [HF.out]; rfl, HB.out⟩
   ·have e1 : (y.1.k != 52) = true := by simp [h52]
    have e2 : (y.1.k != 51) = true := by simp [h51]
    rw [if_neg q9] at hst
    have hkz : k ≠ 0 := fun e => h51 (HOK.out.root y (by rw [← e]; exact hy))
    obtain ⟨m, hm⟩ : ∃ m : Nat, y.2.2 = m := ⟨y.2.2.toNat, by have := huy.2.1 q9; omega⟩
    have HF := J (show m < L.length ∧ m < k ∧ homeK L m = r by rw [hm] at hst huy; exact ⟨q9, q9, hst.symm⟩)
    rw [hm] at q6; clear h52 h51 hst hy huy hA2 hm hkz; go_wp2
    go_roundg m
    case measure => have := HKQ.out; have := HF.out.2.1; omega
    case rel => exact ⟨m, rfl, HF.out.1, ⟨rfl⟩, HB, ⟨HF.out.2.2⟩⟩
def zbH (L : List Sn) (i : Int) : List S60 := (L.filter fun x => decide (x.2.2 = i) && decide (x.1.k = 52)).map fun x => ⟨x.2.1, x.2.1 + x.1.wd⟩
theorem blocksS_take {L : List Sn} {i : Int} {j : Nat} {x : Sn} (h : L[j]? = some x) : zbH (L.take (j + 1)) i = zbH (L.take j) i ++ if x.2.2 = i ∧ x.1.k = 52 then [⟨x.2.1, x.2.1 + x.1.wd⟩] else [] := by
 unfold zbH
 rw [List.take_add_one, h, List.filter_append, List.map_append]; by_cases c1 : x.2.2 = i <;> by_cases c2 : x.1.k = 52 <;> simp [c1, c2]
theorem blocksS_len (L : List Sn) (i : Int) : (zbH L i).length ≤ L.length := by
 unfold zbH
 rw [List.length_map]; exact List.length_filter_le _ _
theorem infoSpan : (Try.prog.info? 60).map (fun i => (i.zero, i.size, i.bytes)) = some (some (.agg #[.int .i64 0, .int .i64 0]), 2, 16) := by kernel_rfl
theorem blocks_calls {L : List Sn} (hl : L.length ≤ 1000000) (A : Option Addr) (c : Nat) (W : World) (hC : Kd.C (Kd.raw 7) W A (L.map rawS).length (L.map rawS)) (i : Int) :
  Calls Try.prog 57 #[.slice A L.length c, .int .i64 i] W fun e W' => ∃ v, e = .returned v ∧ Kd.R k60 60 W' W.heap.size (fun q => W.heap.size ≤ q) v (zbH L i) ∧ Below W.heap.size W W' := by
 have HC := J hC; have HLL := J hl; have hus := Try.underlying113; have hun := Try.underlying24; have hup := Try.underlying60; clear hC hl; go_enter Try.func57, Try.ntmps57
 go_wp2
 go_loopg [5, 6] L.length (fun kq v5 v6 w' => ∃ (j : Nat) (vv : Value), vv = v5 ∧ v6 = .int .i64 j ∧ j ≤ L.length ∧ zaa (kq = L.length - j) ∧ zaa (Below W.heap.size W w') ∧ zaa (Kd.R k60 60 w' W.heap.size (fun q => W.heap.size ≤ q) v5 (zbH (L.take j) i)))
 case atStart => exact ⟨0, _, rfl, rfl, Nat.zero_le _, ⟨rfl⟩, ⟨Below.refl _ _⟩, ⟨Kd.R_nil _ _ _ _ _⟩⟩
 case round =>
  obtain ⟨j, vv, rfl, rfl, hj, HKQ, HB, HR⟩ := hrel; have hll := HLL.out; by_cases hlt : j < L.length
  ·obtain ⟨y, hy⟩ : ∃ y, L[j]? = some y := ⟨_, List.getElem?_eq_getElem hlt⟩
   obtain ⟨ad, hA, q0, q4, q5, q6⟩ := seen_at (Kd.za1 HC.out HB.out) j y hy; subst hA; have HBT := J (blocksS_take (i := i) hy); have HBL := J (show (zbH (L.take j) i).length ≤ 1000000 by have := blocksS_len (L.take j) i; rw [List.length_take] at this; omega)
   clear hy; by_cases c1 : y.2.2 = i
   ·have d1 : (y.2.2 == i) = true := by simp [c1]
    by_cases c2 : y.1.k = 52
    ·have d2 : (y.1.k == 52) = true := by simp [c2]
     have HF := J (show zbH (L.take (j + 1)) i = zbH (L.take j) i ++ [⟨y.2.1, y.2.1 + y.1.wd⟩] by rw [HBT.out, if_pos ⟨c1, c2⟩])
     clear c1 c2; obtain ⟨Av, cv, e⟩ := Kd.za4 HR.out; subst e; obtain ⟨t1, ht1⟩ : ∃ t1, t1 = y.2.1 + y.1.wd := ⟨_, rfl⟩; rw [← ht1] at q5 HF; obtain ⟨Y, hY⟩ : ∃ V, V = wr.alloc (.cells #[.int .i64 y.2.1, .int .i64 t1] 60) := ⟨_, rfl⟩; have hbY : Below wr.heap.size wr Y := by rw [hY]; exact zad (Below.refl _ _) _
     obtain ⟨g, cap, w5, hrun, hg5, hgo5, hbg5, hnl, hR5⟩ := zbN k60 60 88 HR.out HB.out.size (fun q hq => by have := HB.out.size; omega) Try.underlying88 infoSpan rfl qe qe (by have := HBL.out; omega) hbY ⟨y.2.1, t1⟩ [.int .i64 y.2.1, .int .i64 t1] Q3 (k60_mkM _ _ _ _) rfl (by intro u hu; simp at hu; rcases hu with rfl | rfl <;> rfl)
     rw [hY] at hrun; have HB5 := J (show Below W.heap.size W w5 from HB.out.grown hg5 HB.out.size (fun q hq => HR.out.1 q hq))
     have HR5 := J (show Kd.R k60 60 w5 W.heap.size (fun q => W.heap.size ≤ q) (.slice (some ⟨g, 0, none⟩) ((zbH (L.take j) i).length + 1) cap) (zbH (L.take (j + 1)) i) by rw [HF.out]; exact hR5)
     clear hY hbY hg5 hgo5 hR5 hnl hbg5 ht1; go_wp2_with (at_builtin; refine wpL_app rfl _ _ _ rfl hrun ?_; clear hrun)
     go_roundg (L.length - (j + 1))
     case measure => have := HKQ.out; omega
     case rel => exact ⟨j + 1, _, rfl, qk, q9, ⟨rfl⟩, HB5, HR5⟩
    ·have d2 : (y.1.k == 52) = false := by simp [c2]
     have HF := J (show zbH (L.take (j + 1)) i = zbH (L.take j) i by rw [HBT.out, if_neg (fun h => c2 h.2), List.append_nil])
     clear c1 c2; go_wp2
     go_roundg (L.length - (j + 1))
     case measure => have := HKQ.out; omega
     case rel => exact ⟨j + 1, _, rfl, qk, q9, ⟨rfl⟩, HB, ⟨by rw [HF.out]; exact HR.out⟩⟩
   ·have d1 : (y.2.2 == i) = false := by simp [c1]
    have HF := J (show zbH (L.take (j + 1)) i = zbH (L.take j) i by rw [HBT.out, if_neg (fun h => c1 h.1), List.append_nil])
    clear c1; go_wp2
    go_roundg (L.length - (j + 1))
    case measure => have := HKQ.out; omega
    case rel => exact ⟨j + 1, _, rfl, qk, q9, ⟨rfl⟩, HB, ⟨by rw [HF.out]; exact HR.out⟩⟩
  ·have hje : j = L.length := by omega
   subst hje; have HRE := J (show Kd.R k60 60 wr W.heap.size (fun q => W.heap.size ≤ q) vv (zbH L i) by have := HR.out; rwa [List.take_length] at this)
   go_wp2
   go_ret
   exact ⟨_, rfl, HRE.out, HB.out⟩
theorem mixD : Try.prog.follows .mixedOrders = true := by kernel_rfl
theorem wpO_app {P : Program} {w w' : World} {ops : Array Oper} {o : Oper} {a : Act} {Q : Exit → Act → World → Prop} {Kc : Act → World → Prop} {v' : Value}
  (hw : Region.wanted o (yielded ops a.tmps) = true) (s x : Operand) (t : TypeId) (hop : o.op = Op.call { callee := Callee.builtin Builtin.append, args := #[s, x], argTypes := #[t, t] })
  (hrun : (Builtin.append_ #[t, t] o.type #[a.eval s, a.eval x]).run P w = .ok v' w') (hK : Kc (a.put o.dst v') w') : if Region.wanted o (yielded ops a.tmps) = true then Oper.wp P o a w Kc Q else Kc (a.put o.dst undef) w := by
 rw [if_pos hw]; unfold Oper.wp execOp
 simp only [hop, resolve, invoke, builtin, Sem.run_bind, Sem.run_pure, Result.andThen_ok, List.map_toArray, List.map_cons, List.map_nil, hrun]; exact hK
structure Dc where
 f : Int
 t : Int
 kind : Int
 again : Bool
 name : ByteArray
 counts : List S60
 home : Int
abbrev Dm := Dc × Value
abbrev Us := Int × Int × ByteArray
abbrev rawD (x : Dm) : List Value := [.int .i64 x.1.f, .int .i64 x.1.t, .int .u8 x.1.kind, .bool x.1.again, .string x.1.name, x.2, .int .i64 x.1.home]
abbrev rawU (x : Us) : List Value := [.int .i64 x.1, .int .i64 x.2.1, .string x.2.2]
def nmS (s : ByteArray) (x : Sn) : ByteArray := s.extract x.2.1.toNat (x.2.1 + x.1.wd).toNat
def endS (L : List Sn) (k : Int) : Int := match L[k.toNat]? with | some x => x.2.1 + x.1.wd | none => 0
def kindS (L : List Sn) (k : Int) : Int := if k < 0 then -1 else match L[k.toNat]? with | some x => x.1.k | none => -1
def mkD (L : List Sn) (s : ByteArray) (ds : List Dc) (x y : Sn) (u : Int) : Dc :=
 let h := if y.1.k = 55 then u else homeK L y.2.2
 ⟨x.2.1, x.2.1 + x.1.wd, if y.1.k = 53 then 1 else if y.1.k = 54 then 2 else 3, ds.any fun d => decide (d.name = nmS s x) && decide (d.home = h), nmS s x,
  if y.1.k = 53 then [⟨y.2.1 + y.1.wd, endS L h⟩] else if y.1.k = 54 then [⟨x.2.1 + x.1.wd, endS L h⟩] else if kindS L y.2.2 = 54 then zbH L y.2.2 else [], h⟩
def stepD (L : List Sn) (s : ByteArray) (x : Sn) (r : List Dc × List Us) : List Dc × List Us :=
 if x.1.k = 6 ∧ 0 ≤ x.2.2 then match L[x.2.2.toNat]? with
  | none => r
  | some y => if y.1.k = 66 then (r.1, r.2 ++ [(x.2.1, x.2.1 + x.1.wd, nmS s x)]) else if y.1.k = 53 ∨ y.1.k = 54 ∨ y.1.k = 55 then (r.1 ++ [mkD L s r.1 x y x.2.2], r.2) else r
 else r
def findS (L : List Sn) (s : ByteArray) (i : Nat) : List Dc × List Us := (L.take i).foldl (fun r x => stepD L s x r) ([], [])
theorem findS_step {L : List Sn} {s : ByteArray} {i : Nat} {x : Sn} (h : L[i]? = some x) : findS L s (i + 1) = stepD L s x (findS L s i) := by
 unfold findS
 rw [List.take_add_one, h, List.foldl_append]
 rfl
theorem stepD_len (L : List Sn) (s : ByteArray) (x : Sn) (r : List Dc × List Us) : (stepD L s x r).1.length + (stepD L s x r).2.length ≤ r.1.length + r.2.length + 1 := by
 unfold stepD
 split
 ·split
  ·omega
  ·split
   ·simp only [List.length_append, List.length_singleton]; omega
   ·split
    ·simp only [List.length_append, List.length_singleton]; omega
    ·omega
 ·omega
theorem findS_len (L : List Sn) (s : ByteArray) : ∀ i, i ≤ L.length → (findS L s i).1.length + (findS L s i).2.length ≤ i
 | 0, _ => by simp [findS]
 | i + 1, h => by
  obtain ⟨x, hx⟩ : ∃ x, L[i]? = some x := ⟨_, List.getElem?_eq_getElem q9⟩
  rw [findS_step hx]; have h1 := stepD_len L s x (findS L s i); have h2 := findS_len L s i q9
  omega
structure FI (w1 w : World) (B : Nat) (vd vu : Value) (m : List Dm) (us : List Us) : Prop where
 bs : B ≤ w1.heap.size
 low : Below B w1 w
 rd : Kd.R (Kd.raw 7) 90 w B (fun q => B ≤ q) vd (m.map rawD)
 ru : Kd.R (Kd.raw 3) 92 w B (fun q => B ≤ q) vu (us.map rawU)
 rc : ∀ x ∈ m, Kd.R k60 60 w B (fun q => B ≤ q) x.2 x.1.counts
theorem FI.below {w1 w w' : World} {B : Nat} {vd vu : Value} {m : List Dm} {us : List Us} (h : FI w1 w B vd vu m us) (hb : Below w.heap.size w w') : FI w1 w' B vd vu m us :=
 ⟨h.bs, zbL h.low hb (Nat.le_trans h.bs h.low.size), Kd.zbx h.rd hb, Kd.zbx h.ru hb, fun x hx => Kd.zbx (h.rc x hx) hb⟩
theorem FI.lower {w0 w1 w : World} {B B' : Nat} {vd vu : Value} {m : List Dm} {us : List Us} (h : FI w1 w B vd vu m us) (hB : B' ≤ B) (hb : B' ≤ w0.heap.size) (hl : Below B' w0 w) : FI w0 w B' vd vu m us :=
 ⟨hb, hl, Kd.zbl (Kd.zbz h.rd hB) (fun _ hq => Nat.le_trans hB hq), Kd.zbl (Kd.zbz h.ru hB) (fun _ hq => Nat.le_trans hB hq), fun x hx => Kd.zbl (Kd.zbz (h.rc x hx) hB) (fun _ hq => Nat.le_trans hB hq)⟩
theorem infoDecl20 : (Try.prog.info? 90).map (fun i => (i.zero, i.size, i.bytes)) = some (some (.agg #[.int .i64 0, .int .i64 0, .int .u8 0, .bool false, .string ⟨#[]⟩, .slice none 0 0, .int .i64 0]), 7, 72) := by kernel_rfl
theorem infoUse20 : (Try.prog.info? 92).map (fun i => (i.zero, i.size, i.bytes)) = some (some (.agg #[.int .i64 0, .int .i64 0, .string ⟨#[]⟩]), 3, 32) := by kernel_rfl
theorem use_app {w1 X Y : World} {B n cu : Nat} {vd : Value} {Au : Option Addr} {m : List Dm} {us : List Us} (h : FI w1 X B vd (.slice Au n cu) m us) (hl : us.length ≤ 1000000) (u : Us) (hY : Y = X.alloc (.cells #[.int .i64 u.1, .int .i64 u.2.1, .string u.2.2] 92)) :
  ∃ (g cap : Nat) (w5 : World), (Builtin.append_ #[85, 85] 85 #[.slice Au n cu, .slice (some ⟨X.heap.size, 0, none⟩) 1 1]).run Try.prog Y = .ok (.slice (some ⟨g, 0, none⟩) (n + 1) cap) w5 ∧ FI w1 w5 B vd (.slice (some ⟨g, 0, none⟩) (n + 1) cap) m (us ++ [u]) ∧ ∀ (b : Nat) (cs : Array Value), X.heap[b]? = some (Obj.cells cs 90 (0, 0)) → w5.heap[b]? = some (Obj.cells cs 90 (0, 0)) := by
 have hsz : B ≤ X.heap.size := Nat.le_trans h.bs h.low.size; have hbY : Below X.heap.size X Y := by rw [hY]; exact zad (Below.refl _ _) _
 obtain ⟨g, cap, w5, hrun, hg5, hgo5, hbg5, hnl, hR5⟩ := zbN (Kd.raw 3) 92 85 h.ru hsz (fun q hq => q9) Try.underlying85 infoUse20 rfl qe qe (by rw [List.length_map]; omega) hbY (rawU u) (rawU u) Q3 ⟨rfl, rfl, Qr⟩ rfl Qr
 refine ⟨g, cap, w5, hrun, ⟨h.bs, h.low.grown hg5 hsz (fun k hk => h.ru.1 k hk), Kd.R_over' h.rd (Kd.R_typed h.ru) qe hg5, ?_, fun x hx => Kd.R_over' (h.rc x hx) (Kd.R_typed h.ru) qe hg5⟩, fun b cs hb => (hg5.block _ (zaN hb) (fun e => ?_)).trans hb⟩
 ·rw [List.map_append, List.map_singleton]
  exact hR5
 ·obtain ⟨cs2, h2⟩ := Kd.R_typed h.ru b e.symm
  rw [hb] at h2; injection h2 with h2
  injection h2 with _ h2 _
  exact absurd h2 qe
theorem decl_app {w1 X Y : World} {B n cd : Nat} {vu : Value} {Ad : Option Addr} {m : List Dm} {us : List Us} (h : FI w1 X B (.slice Ad n cd) vu m us) (hl : m.length ≤ 1000000) (x : Dm) (hx : Kd.R k60 60 X B (fun q => B ≤ q) x.2 x.1.counts) (hY : Y = X.alloc (.cells (rawD x).toArray 90)) :
  ∃ g cap w5, (Builtin.append_ #[84, 84] 84 #[.slice Ad n cd, .slice (some ⟨X.heap.size, 0, none⟩) 1 1]).run Try.prog Y = .ok (.slice (some ⟨g, 0, none⟩) (n + 1) cap) w5 ∧ FI w1 w5 B (.slice (some ⟨g, 0, none⟩) (n + 1) cap) vu (m ++ [x]) us := by
 have hsz : B ≤ X.heap.size := Nat.le_trans h.bs h.low.size; have hbY : Below X.heap.size X Y := by rw [hY]; exact zad (Below.refl _ _) _
 obtain ⟨A, c, e⟩ := Kd.za4 hx; have h1 : x.2.oneCell' = true := by rw [e]; rfl
 obtain ⟨g, cap, w5, hrun, hg5, hgo5, hbg5, hnl, hR5⟩ := zbN (Kd.raw 7) 90 84 h.rd hsz (fun q hq => q9) Try.underlying84 infoDecl20 rfl qe qe (by rw [List.length_map]; omega) hbY (rawD x) (rawD x) Q3 ⟨rfl, rfl, by intro v hv; simp at hv; rcases hv with rfl | rfl | rfl | rfl | rfl | rfl | rfl <;> first | rfl | exact h1⟩ rfl (by intro v hv; simp at hv; rcases hv with rfl | rfl | rfl | rfl | rfl | rfl | rfl <;> first | rfl | exact h1)
 refine ⟨g, cap, w5, hrun, h.bs, h.low.grown hg5 hsz (fun k hk => h.rd.1 k hk), ?_, Kd.R_over' h.ru (Kd.R_typed h.rd) qe hg5, fun y hy => ?_⟩
 ·rw [List.map_append, List.map_singleton]
  exact hR5
 ·rcases List.mem_append.1 hy with hy | hy
  ·exact Kd.R_over' (h.rc y hy) (Kd.R_typed h.rd) qe hg5
  ·obtain rfl := List.mem_singleton.1 hy
   exact Kd.R_over' hx (Kd.R_typed h.rd) qe hg5
theorem R_span1 {w : World} {B : Nat} (hB : B ≤ w.heap.size) (a b : Int) : Kd.R k60 60 (w.alloc (.cells #[.int .i64 a, .int .i64 b] 60)) B (fun q => B ≤ q) (.slice (some ⟨w.heap.size, 0, none⟩) 1 1) [⟨a, b⟩] := by
 refine ⟨fun k hk => ?_, [.int .i64 a, .int .i64 b], ?_, ⟨rfl, fun j p hj => ?_⟩⟩
 ·have : w.heap.size = k := by simpa [Value.ownBlock] using hk
  omega
 ·exact ⟨rfl, .inr ⟨w.heap.size, 1, #[.int .i64 a, .int .i64 b], rfl, hB, heap_alloc_new _ _, Nat.le_refl _, qe, rfl, rfl⟩⟩
 ·cases j with
  | zero =>
   simp at hj; subst hj; exact k60_mkM _ _ _ _
  | succ j => simp at hj
theorem ba_inj {a b : ByteArray} (h : a.toList = b.toList) : a = b := by
 rw [ByteArray.toList_eq, ByteArray.toList_eq] at h; exact Go.WideShapes.bytes_inj h
theorem decl_at {W : World} {A : Option Addr} {L : List Dm} (h : Kd.C (Kd.raw 7) W A (L.map rawD).length (L.map rawD)) (i : Nat) (x : Dm) (hx : L[i]? = some x) : ∃ ad, A = some ad ∧ W.cell? ⟨(ad.add (i * 7)).block, (ad.add (i * 7)).off + 4, none⟩ = some (.string x.1.name) ∧ W.cell? ⟨(ad.add (i * 7)).block, (ad.add (i * 7)).off + 6, none⟩ = some (.int .i64 x.1.home) := by
 have hi : i < L.length := (List.getElem?_eq_some_iff.1 hx).1; obtain ⟨ad, c, e, _, hK, hc0⟩ := Kd.C_get h [] (i : Int) q9 (by simpa using hi)
 have hc : ∀ j u, c[j]? = some u → W.cell? (ad.add (i * 7 + j)) = some u := fun j u hu => by have := hc0 j u hu; rw [Int.toNat_natCast] at this; exact this
 have hc' : c = rawD x := by
  have h1 := hK.1; rw [h1, Int.toNat_natCast, List.getD_eq_getElem?_getD, List.getElem?_map, hx]
  rfl
 subst hc'; exact ⟨ad, e, by rw [← zbm _ _ 4 q9]; exact hc 4 _ rfl, by rw [← zbm _ _ 6 q9]; exact hc 6 _ rfl⟩
theorem put7 {W0 w : World} {n q : Nat} {v0 v1 v2 v3 v4 v5 v6 : Value} (h : w.heap[q]? = some (.cells #[v0, v1, v2, v3, v4, v5, v6] 90 (0, 0))) (hb : Below n W0 w) (hq : n ≤ q) (u0 u1 u2 u3 u4 u5 u6 : Value) :
  ∃ Z, Z = ((((((w.setCell ⟨q, 0, none⟩ u0).setCell ⟨q, 1, none⟩ u1).setCell ⟨q, 2, none⟩ u2).setCell ⟨q, 3, none⟩ u3).setCell ⟨q, 4, none⟩ u4).setCell ⟨q, 5, none⟩ u5).setCell ⟨q, 6, none⟩ u6 ∧ Below n W0 Z ∧ Z.heap[q]? = some (.cells #[u0, u1, u2, u3, u4, u5, u6] 90 (0, 0)) :=
 ⟨_, rfl, ((((((hb.setCell hq _).setCell hq _).setCell hq _).setCell hq _).setCell hq _).setCell hq _).setCell hq _, by simpa using zbe (zbe (zbe (zbe (zbe (zbe (zbe h 0 u0) 1 u1) 2 u2) 3 u3) 4 u4) 5 u5) 6 u6⟩
theorem find_calls (s : ByteArray) (T : AT) (W : World) (hT : AtT W T) (hgd : goodT T.erase) (hk : T.k = 51) (hw : T.wd = s.size) (hn : nT T ≤ 1000000) (hs : s.size ≤ 1099511627776) :
  Calls Try.prog 40 #[.string s, T.val] W fun e W' => ∃ vd vu m us, e = .returned (.tuple #[vd, vu]) ∧ FI W W' W.heap.size vd vu m us ∧ m.map (·.1) = (findS (seenT T 0 (-1) 0) s (seenT T 0 (-1) 0).length).1 ∧ us = (findS (seenT T 0 (-1) 0) s (seenT T 0 (-1) 0).length).2 := by
 obtain ⟨L, hL⟩ : ∃ L, L = seenT T 0 (-1) 0 := ⟨_, rfl⟩; rw [← hL]; have HOK := J (show SnOk L s.size by rw [hL, ← hw]; exact seen_ok T hgd hk)
 have HLL := J (show L.length ≤ 1000000 by rw [hL, zbK]; exact hn)
 obtain ⟨X, hX⟩ : ∃ V, V = W.alloc (.cells #[.int .u8 T.k, .int .u8 T.w, .int .i64 T.wd, .slice T.A T.kids.length T.c] 24) := ⟨_, rfl⟩; have HBX := J (show Below W.heap.size W X by rw [hX]; exact zad (Below.refl _ _) _)
 have hbox : X.heap[W.heap.size]? = some (.cells #[.int .u8 T.k, .int .u8 T.w, .int .i64 T.wd, .slice T.A T.kids.length T.c] 24 (0, 0)) := by rw [hX]; exact heap_alloc_new _ _
 have p0 := zaf hbox 0; have p1 := zaf hbox 1; have p2 := zaf hbox 2; have p3 := zaf hbox 3; simp at p0 p1 p2 p3; have hcall := rall_calls X X.heap.size (Nat.le_refl _) _ T (Nat.lt_succ_self _) (AtT.below HBX.out T hT) hgd 0 (-1) (.slice none 0 0) [] X (Below.refl _ _) (Nat.le_refl _) (Kd.R_nil _ _ _ _ _) (Int.le_refl _) (by rw [hw]; omega) (by simp; exact hn)
 rw [List.nil_append, List.length_nil, Int.natCast_zero, ← hL] at hcall; simp only [AT.val] at hcall ⊢; have hus := Try.underlying113; have hun := Try.underlying24; have hup := Try.underlying60; have hud := Try.underlying90; have huu := Try.underlying92; have huc := Try.underlying62; have HS := J hs; clear hT hgd hk hw hn hL hbox hs; go_enter Try.func40, Try.ntmps40
 go_upto_region 1 with (fail)
 change Code.wp Try.prog _ _ _ (W.alloc (.cells #[.int .u8 T.k, .int .u8 T.w, .int .i64 T.wd, .slice T.A T.kids.length T.c] 24))
 rw [← hX]; clear hX; go_wp2_with (go_at_call 55; refine hcall.mono ?_; rintro e w1 ⟨v1, rfl, hR1, hO1⟩; clear hcall p0 p1 p2 p3)
 obtain ⟨A1, c1, rfl, hc1, hC1⟩ := Kd.zbR hR1; rw [List.length_map] at *; have HB1 := J (show Below W.heap.size W w1 from zbL HBX.out (hO1.low (Below.refl _ _) (Nat.le_refl _) (fun k hk => by cases hk)) HBX.out.size)
 have hC1' : Kd.C (Kd.raw 7) w1 A1 (L.map rawS).length (L.map rawS) := by rw [List.length_map]; exact hC1
 have HC1 := J hC1'; clear hR1 hO1 hC1 hC1' hc1; go_loopg [7, 8, 9] L.length (fun kq v7 v8 v9 w' => ∃ (i : Nat) (vd vu : Value) (m : List Dm), vd = v7 ∧ vu = v8 ∧ v9 = .int .i64 i ∧ i ≤ L.length ∧ zaa (kq = L.length - i) ∧ zaa (FI w1 w' w1.heap.size v7 v8 m (findS L s i).2) ∧ zaa (m.map (·.1) = (findS L s i).1))
 case atStart => exact ⟨0, _, _, [], rfl, rfl, rfl, Nat.zero_le _, ⟨rfl⟩, ⟨⟨Nat.le_refl _, Below.refl _ _, Kd.R_nil _ _ _ _ _, Kd.R_nil _ _ _ _ _, fun x hx => by cases hx⟩⟩, ⟨rfl⟩⟩
 case round =>
  obtain ⟨i, vd, vu, m, rfl, rfl, rfl, hi, HKQ, HFI, HM⟩ := hrel; have hll := HLL.out; by_cases hlt : i < L.length
  ·obtain ⟨x, hx⟩ : ∃ x, L[i]? = some x := ⟨_, List.getElem?_eq_getElem hlt⟩
   have hsx := HOK.out.sp i x hx; have hux := HOK.out.up i x hx; have HXI := J hx; have HST := J (findS_step (s := s) hx); obtain ⟨ad, hA, q0, q4, q5, q6⟩ := seen_at (Kd.za1 HC1.out HFI.out.low) i x hx; subst hA; clear hx; by_cases hk6 : x.1.k = 6
   ·have d6 : (x.1.k != 6) = false := by simp [hk6]
    by_cases hup0 : x.2.2 < 0
    ·have HF := J (show findS L s (i + 1) = findS L s i by rw [HST.out]; unfold stepD; rw [if_neg q9])
     clear hk6 hsx hux; go_wp2
     go_roundg (L.length - (i + 1))
     case measure => have := HKQ.out; omega
     case rel => exact ⟨i + 1, _, _, m, rfl, rfl, qk, q9, ⟨rfl⟩, ⟨by rw [HF.out]; exact HFI.out⟩, ⟨by rw [HF.out]; exact HM.out⟩⟩
    ·obtain ⟨u, hu⟩ : ∃ u : Nat, x.2.2 = u := ⟨x.2.2.toNat, q9⟩
     have HUI := J (show u < i by have := hux.2.2; omega)
     obtain ⟨y, hy⟩ : ∃ y, L[u]? = some y := ⟨_, List.getElem?_eq_getElem (by have := HUI.out; omega)⟩
     have HYI := J hy; have HSTY := J (show findS L s (i + 1) = if y.1.k = 66 then ((findS L s i).1, (findS L s i).2 ++ [(x.2.1, x.2.1 + x.1.wd, nmS s x)]) else if y.1.k = 53 ∨ y.1.k = 54 ∨ y.1.k = 55 then ((findS L s i).1 ++ [mkD L s (findS L s i).1 x y u], (findS L s i).2) else findS L s i by rw [HST.out]; unfold stepD; rw [if_pos ⟨hk6, q9⟩, hu, Int.toNat_natCast, hy])
     obtain ⟨f, hf⟩ : ∃ f, f = x.2.1 := ⟨_, rfl⟩; obtain ⟨e, he⟩ : ∃ e, e = x.2.1 + x.1.wd := ⟨_, rfl⟩; obtain ⟨nm, hnm⟩ : ∃ nm, nm = nmS s x := ⟨_, rfl⟩; rw [hu] at q6; rw [← hf] at q4; rw [← he] at q5; have HF := J hf; have HE := J he; have HNM := J (show s.extract f.toNat e.toNat = nm by rw [hnm, hf, he]; rfl)
     have HNX := J hnm; have hfe0 : 0 ≤ f := by rw [hf]; omega
     have hfe1 : f ≤ e := by rw [hf, he]; omega
     have hfe2 : e ≤ s.size := by rw [he]; omega
     have HU := J hu; clear hf he hnm hu hy hsx hux hup0 hk6; go_upto_region 9 with (fail)
     go_cut [11] (fun v11 wx => ∃ bx, v11 = .pointer (some ⟨bx, 0, none⟩) ∧ zaa (Below wr.heap.size wr wx ∧ wr.heap.size ≤ bx ∧ wx.heap[bx]? = some (.cells #[.int .i64 f, .int .i64 e, .int .u8 0, .bool false, .string nm, .slice none 0 0, .int .i64 0] 90 (0, 0))))
     case first =>
      obtain ⟨Y, hY⟩ : ∃ Y : World, Y = wr.drew := ⟨_, rfl⟩; have HBY := J (show Below wr.heap.size wr Y by rw [hY]; exact (Below.refl _ _).drew)
      have HSX := J (fun (w : World) (hw : Below wr.heap.size wr w) => (show w.cell? (ad.add (i * 7)) = some (.int .u8 x.1.k) ∧ w.cell? ⟨(ad.add (i * 7)).block, (ad.add (i * 7)).off + 4, none⟩ = some (.int .i64 f) ∧ w.cell? ⟨(ad.add (i * 7)).block, (ad.add (i * 7)).off + 5, none⟩ = some (.int .i64 e) from by
       obtain ⟨ad2, e2, h0, h4, h5, _⟩ := seen_at (Kd.za1 HC1.out (HFI.out.below hw).low) i x HXI.out; obtain rfl := Option.some.inj e2; rw [← HF.out] at h4; rw [← HE.out] at h5; exact ⟨h0, h4, h5⟩))
      have HS0 := J (HSX.out Y HBY.out)
      (try clear HST); (try clear HSTY); (try clear HYI); (try clear HKQ); (try clear HM); (try clear HNX); (try clear HU); (try clear HUI); (try clear hll); (try clear hi); (try clear q0); (try clear q4); (try clear q5); (try clear q6); (try clear d6); (try clear HOK); (try clear HLL); (try clear HBX); (try clear HB1); (try clear HXI); (try clear HF); (try clear HE); (try clear HFI); (try clear HC1); (try clear HS); (try clear hun); (try clear huu)
      refine wp_region_noPanic (zba [0, 1, 2, 3, 4, 5, 6, 7, 8, 9, 10, 11, 12, 13, 14, 15, 16, 17, 18, 19, 20, 21, 22] (fun W' => W'.cell? (ad.add (i * 7)) = some (.int .u8 x.1.k) ∧ W'.cell? ⟨(ad.add (i * 7)).block, (ad.add (i * 7)).off + 4, none⟩ = some (.int .i64 f) ∧ W'.cell? ⟨(ad.add (i * 7)).block, (ad.add (i * 7)).off + 5, none⟩ = some (.int .i64 e)) mixD ?_)
      rw [← hY]; clear hY; refine zah 0 rfl HS0.out (fun _ h => qu) ?_
      simp only [Act.put, zai]; refine zah 1 rfl HS0.out (fun _ h => qu) ?_
      simp only [Act.put, zai]; refine zah 2 rfl HS0.out (fun _ h => qu) ?_
      simp only [Act.put, zai]; refine zah 3 rfl HS0.out (fun _ h => qu) ?_
      simp only [Act.put, zai]; refine zah 4 rfl HS0.out (fun _ h => qu) ?_
      simp only [Act.put, zai]; refine zah 5 rfl HS0.out (fun _ h => qu) ?_
      simp only [Act.put, zai]; refine zah 6 rfl HS0.out (fun _ h => qu) ?_
      simp only [Act.put, zai]; refine zah 7 rfl HS0.out (fun _ h => qu) ?_
      simp only [Act.put, zai]; refine zah 8 rfl HS0.out (fun _ h => qu) ?_
      simp only [Act.put, zai]; refine zah 9 rfl HS0.out (fun _ h => qu) ?_
      simp only [Act.put, zai]; refine zah 10 rfl HS0.out (fun _ h => qu) ?_
      simp only [Act.put, zai]; refine zah 11 rfl HS0.out (fun _ h => qu) ?_
      simp only [Act.put, zai]; refine zah 12 rfl HS0.out (fun _ h => qu) ?_
      simp only [Act.put, zai]; refine zah 13 rfl HS0.out (fun _ h => qu) ?_
      simp only [Act.put, zai]; refine zah 14 rfl HS0.out (fun _ h => qu) ?_
      simp only [Act.put, zai]; refine zah 15 rfl HS0.out (fun _ h => qu) ?_
      simp only [Act.put, zai]; refine zah 16 rfl HS0.out (fun _ h => qu) ?_
      simp only [Act.put, zai]; refine zah 17 rfl HS0.out (fun _ h => qu) ?_
      simp only [Act.put, zai]; refine zah 18 rfl HS0.out (fun _ h => qu) ?_
      simp only [Act.put, zai]; refine zah 19 rfl HS0.out (fun _ h => qu) ?_
      simp only [Act.put, zai]; rw [HNM.out]; refine zah 20 rfl HS0.out (fun _ h => qu) ?_
      simp only [Act.put, zai]; refine zaI (i := 21) rfl qb (fun K hK => ?_)
      go_simp
      obtain ⟨Z0, hZ0⟩ : ∃ z : World, z = Y.alloc (.cells #[.int .i64 0, .int .i64 0, .int .u8 0, .bool false, .string ⟨#[]⟩, .slice none 0 0, .int .i64 0] 90) := ⟨_, rfl⟩; rw [← hZ0]; have HBZ0 := J (show Below wr.heap.size wr Z0 by rw [hZ0]; exact zak HBY.out (zad (Below.refl _ _) _))
      have HZN := J (show Z0.heap[Y.heap.size]? = some (.cells #[.int .i64 0, .int .i64 0, .int .u8 0, .bool false, .string ⟨#[]⟩, .slice none 0 0, .int .i64 0] 90 (0, 0)) by rw [hZ0]; exact heap_alloc_new _ _)
      have HYS := J (show wr.heap.size ≤ Y.heap.size from HBY.out.size)
      have HS1 := J (HSX.out Z0 HBZ0.out); refine hK.out _ _ (fun _ => HS1.out) (fun _ => ?_)
      clear hK K; try simp only [Act.put, zai]
      obtain ⟨bx, hbx⟩ : ∃ bx, bx = Y.heap.size := ⟨_, rfl⟩; rw [← hbx] at HZN HYS; rw [← hbx]; clear hZ0 hbx HS0 HBY; have r0 := zaf HZN.out 0; have f0 := zab HZN.out 0; have r1 := zaf HZN.out 1; have f1 := zab HZN.out 1; have r2 := zaf HZN.out 2; have f2 := zab HZN.out 2; have r3 := zaf HZN.out 3; have f3 := zab HZN.out 3; have r4 := zaf HZN.out 4; have f4 := zab HZN.out 4; have r5 := zaf HZN.out 5; have f5 := zab HZN.out 5; have r6 := zaf HZN.out 6; have f6 := zab HZN.out 6; have lz := zaN HZN.out; simp at r0 r1 r2 r3 r4 r5 r6; obtain ⟨Z, hZ, HBZ, HZC⟩ := put7 HZN.out HBZ0.out HYS.out (.int .i64 f) (.int .i64 e) (.int .u8 0) (.bool false) (.string nm) (.slice none 0 0) (.int .i64 0); have HBZ := J HBZ; have HZC := J HZC; have HS2 := J (HSX.out Z HBZ.out); refine zaI (i := 22) rfl qb (fun K hK => ?_)
      go_simp
      rw [← hZ]; refine hK.out _ _ (fun _ => HS2.out) (fun _ => ?_)
      clear hK K; try simp only [Act.put, zai]
      refine za3 qb (NoPanic.normal ?_) _
      clear hZ r0 r1 r2 r3 r4 r5 r6 f0 f1 f2 f3 f4 f5 f6 lz; go_wp2_with fail
      go_meet
      exact ⟨bx, rfl, ⟨HBZ.out, HYS.out, HZC.out⟩⟩
     case rest =>
      obtain ⟨bx, rfl, HX⟩ := hcut; obtain ⟨hbx, hsx, hcx⟩ := HX.out; have HBX9 := J hbx; have HSX9 := J hsx; have HCX9 := J hcx; have HFC := J (HFI.out.below hbx); obtain ⟨ad2, hA2, q0, q4, q5, q6⟩ := seen_at (Kd.za1 HC1.out HFC.out.low) i x HXI.out; obtain rfl := Option.some.inj hA2; obtain ⟨ad3, hA3, y0, y4, y5, y6⟩ := seen_at (Kd.za1 HC1.out HFC.out.low) u y HYI.out; obtain rfl := Option.some.inj hA3; rw [← HF.out] at q4; rw [← HE.out] at q5; rw [HU.out] at q6; have hui := HUI.out; have r4 := zaf hcx 4; simp at r4; clear hbx hsx hcx HX hA2 hA3; by_cases k66 : y.1.k = 66
      ·have d66 : (y.1.k == 66) = true := by simp [k66]
       have HF66 := J (show findS L s (i + 1) = ((findS L s i).1, (findS L s i).2 ++ [(f, e, nm)]) by rw [HSTY.out, if_pos k66, HF.out, HE.out, HNX.out])
       have HUL := J (show (findS L s i).2.length ≤ 1000000 by have := findS_len L s i q9; omega)
       clear k66; go_upto_region 12 with (fail)
       obtain ⟨Au, cu, eu⟩ := Kd.za4 HFC.out.ru; rw [List.length_map] at eu; subst eu; obtain ⟨X2, hX2⟩ : ∃ X2 : World, X2 = wc.drew := ⟨_, rfl⟩; have HB2 := J (show Below wc.heap.size wc X2 by rw [hX2]; exact (Below.refl _ _).drew)
       have HF2 := J (HFC.out.below HB2.out); have HSX := J (fun (w : World) (hw : Below w1.heap.size w1 w) (hr : w.heap[bx]? = some (.cells #[.int .i64 f, .int .i64 e, .int .u8 0, .bool false, .string nm, .slice none 0 0, .int .i64 0] 90 (0, 0))) => (show w.cell? ⟨(ad.add (i * 7)).block, (ad.add (i * 7)).off + 4, none⟩ = some (.int .i64 f) ∧ w.cell? ⟨(ad.add (i * 7)).block, (ad.add (i * 7)).off + 5, none⟩ = some (.int .i64 e) ∧ w.cell? ⟨bx, 4, none⟩ = some (.string nm) ∧ bx < w.heap.size from by
        obtain ⟨ad2, e2, _, h4, h5, _⟩ := seen_at (Kd.za1 HC1.out hw) i x HXI.out; obtain rfl := Option.some.inj e2; rw [← HF.out] at h4; rw [← HE.out] at h5; have h6 := zaf hr 4; simp at h6; exact ⟨h4, h5, h6, zaN hr⟩))
       have HS0 := J (HSX.out X2 HF2.out.low (zaG HCX9.out HB2.out)); obtain ⟨g, cap, w5, hrun, hfi5, hbk5⟩ := use_app HF2.out HUL.out (f, e, nm) rfl; have HS10 := J (HSX.out w5 hfi5.low (hbk5 _ _ (zaG HCX9.out HB2.out))); have HF5 := J hfi5; have HS9 := J (HSX.out (X2.alloc (.cells #[.int .i64 f, .int .i64 e, .string nm] 92)) (zbL HF2.out.low (zad (Below.refl _ _) _) HF2.out.low.size) (zaG (zaG HCX9.out HB2.out) (zad (Below.refl _ _) _))); clear hfi5 hbk5 q0 q4 q5 q6 y0 y4 y5 y6 r4; refine wp_region_noPanic (zba [0, 1, 2, 3, 4, 5, 6, 7, 8, 9, 10] (fun W' => W'.cell? ⟨(ad.add (i * 7)).block, (ad.add (i * 7)).off + 4, none⟩ = some (.int .i64 f) ∧ W'.cell? ⟨(ad.add (i * 7)).block, (ad.add (i * 7)).off + 5, none⟩ = some (.int .i64 e) ∧ W'.cell? ⟨bx, 4, none⟩ = some (.string nm) ∧ bx < W'.heap.size) mixD ?_)
       rw [← hX2]; clear hX2; refine zah 0 rfl HS0.out (fun _ h => qj) ?_
       simp only [Act.put, zai]; refine zah 1 rfl HS0.out (fun _ h => qj) ?_
       simp only [Act.put, zai]; refine zah 2 rfl HS0.out (fun _ h => qj) ?_
       simp only [Act.put, zai]; refine zah 3 rfl HS0.out (fun _ h => qj) ?_
       simp only [Act.put, zai]; refine zah 4 rfl HS0.out (fun _ h => qj) ?_
       simp only [Act.put, zai]; refine zah 5 rfl HS0.out (fun _ h => qj) ?_
       simp only [Act.put, zai]; refine zah 6 rfl HS0.out (fun _ h => qj) ?_
       simp only [Act.put, zai]; refine zah 7 rfl HS0.out (fun _ h => qj) ?_
       simp only [Act.put, zai]; refine zah 8 rfl HS0.out (fun _ h => qj) ?_
       simp only [Act.put, zai]; refine zaI (i := 9) rfl qb (fun K hK => ?_)
       go_simp
       refine hK.out _ _ (fun _ => HS9.out) (fun _ => ?_)
       clear hK K; try simp only [Act.put, zai]
       refine zaI (i := 10) rfl qb (fun K hK => ?_)
       refine wpO_app (by rfl) _ _ _ rfl hrun ?_
       clear hrun; refine hK.out _ _ (fun _ => HS10.out) (fun _ => ?_)
       clear hK K; try simp only [Act.put, zai]
       refine zaI (i := 11) rfl qb (fun K hK => ?_)
       go_simp
       refine hK.out _ _ (fun h => Bool.noConfusion (show false = true from h)) (fun _ => ?_)
       clear hK K; try simp only [Act.put, zai]
       refine za3 qb (NoPanic.normal ?_) _
       go_wp2_with fail
       go_roundg (L.length - (i + 1))
       case measure => have := HKQ.out; omega
       case rel => exact ⟨i + 1, _, _, m, rfl, rfl, qk, q9, ⟨rfl⟩, ⟨by rw [HF66.out]; exact HF5.out⟩, ⟨by rw [HF66.out]; exact HM.out⟩⟩
      ·have d66 : (y.1.k == 66) = false := by simp [k66]
       by_cases kD : y.1.k = 53 ∨ y.1.k = 54 ∨ y.1.k = 55
       ·obtain ⟨d, hd⟩ : ∃ d, d = mkD L s (findS L s i).1 x y u := ⟨_, rfl⟩
        have HFD := J (show findS L s (i + 1) = ((findS L s i).1 ++ [d], (findS L s i).2) by rw [HSTY.out, if_neg k66, if_pos kD, hd])
        have HD1 := J (show d.f = f ∧ d.t = e ∧ d.name = nm ∧ d.again = ((findS L s i).1.any fun c => decide (c.name = nm) && decide (c.home = d.home)) by rw [hd, HF.out, HE.out, HNX.out]; exact ⟨rfl, rfl, rfl, rfl⟩)
        have HU0 := J (show 0 < u from Nat.pos_of_ne_zero fun e0 => by have := HOK.out.root y (by rw [← e0]; exact HYI.out); omega)
        have HD53 := J (show y.1.k = 53 → d.kind = 1 ∧ d.home = homeK L y.2.2 ∧ d.counts = [⟨y.2.1 + y.1.wd, endS L (homeK L y.2.2)⟩] from fun h => by rw [hd]; unfold mkD; simp [h])
        have HD54 := J (show y.1.k = 54 → d.kind = 2 ∧ d.home = homeK L y.2.2 ∧ d.counts = [⟨e, endS L (homeK L y.2.2)⟩] from fun h => by rw [hd, HE.out]; unfold mkD; simp [h])
        have HD55 := J (show y.1.k = 55 → d.kind = 3 ∧ d.home = u ∧ d.counts = if kindS L y.2.2 = 54 then zbH L y.2.2 else [] from fun h => by rw [hd]; unfold mkD; simp [h])
        clear hd k66
        go_upto_block 2 with (fail)
        go_cut [8, 12] (fun v8 v12 wx => v8 = vu ∧ ∃ vC, zaa (Below wr.heap.size wr wx ∧ wx.heap[bx]? = some (.cells #[.int .i64 f, .int .i64 e, .int .u8 d.kind, .bool false, .string nm, vC, .int .i64 d.home] 90 (0, 0)) ∧ Kd.R k60 60 wx w1.heap.size (fun q => w1.heap.size ≤ q) vC d.counts))
        case first =>
         as_aux_lemma =>
          rcases kD with k53 | k54 | k55
          ·obtain ⟨hdk, hdh, hdc⟩ := HD53.out k53
           have e53 : (y.1.k == 53) = true := by simp [k53]
           have e54 : (y.1.k == 54) = false := by simp [k53]
           clear k53; obtain ⟨h, hh⟩ : ∃ h : Nat, homeK L y.2.2 = h ∧ h < L.length := by
            have huy := HOK.out.up u y HYI.out; have h0 := huy.2.1 HU0.out; have hm := homeK_mem HOK.out _ y.2.2.toNat (Nat.lt_succ_self _) q9
            rw [Int.toNat_of_nonneg h0] at hm; exact ⟨(homeK L y.2.2).toNat, q9, q9⟩
           obtain ⟨hh, hhl⟩ := hh; obtain ⟨z, hz⟩ : ∃ z, L[h]? = some z := ⟨_, List.getElem?_eq_getElem hhl⟩; have hend : endS L h = z.2.1 + z.1.wd := by unfold endS; rw [Int.toNat_natCast, hz]
           rw [hh] at hdh hdc; rw [hend] at hdc; have hcall := home_calls HOK.out (some ad) c1 wc (Kd.za1 HC1.out HFC.out.low) u y HYI.out HU0.out; rw [hh] at hcall; have HZI := J hz; have HDD := J (And.intro hdk (And.intro hdh hdc)); clear hdk hdh hdc hh hend hz r4; go_upto_region 15 with (go_at_call 56; refine hcall.mono ?_; rintro e_ w5 ⟨rfl, hb5⟩; have HB5 := J hb5; have hc5 := zaG HCX9.out hb5; have r6 := zaf hc5 6; have g6 := zab hc5 6; have lb := zaN hc5; simp at r6; clear hb5 hcall q0 q4 q5 q6 y0 y4 y5 y6)
           have HC6 := J (show (w5.setCell ⟨bx, 6, none⟩ (.int .i64 h)).heap[bx]? = some (.cells #[.int .i64 f, .int .i64 e, .int .u8 0, .bool false, .string nm, .slice none 0 0, .int .i64 h] 90 (0, 0)) by simpa using zbe hc5 6 (.int .i64 h))
           have HBW5 := J (show Below wr.heap.size wr (w5.setCell ⟨bx, 6, none⟩ (.int .i64 h)) from (zak HBX9.out HB5.out).setCell HSX9.out _)
           obtain ⟨V1, hV1⟩ : ∃ V1, V1 = w5.setCell ⟨bx, 6, none⟩ (.int .i64 h) := ⟨_, rfl⟩; rw [← hV1] at HC6 HBW5; rw [← hV1]; clear hV1 r6 g6 lb hc5; have r2 := zaf HC6.out 2; have g2 := zab HC6.out 2; have lb := zaN HC6.out; simp at r2; go_upto_region 16 with (fail)
           have HC2 := J (show (V1.setCell ⟨bx, 2, none⟩ (.int .u8 1)).heap[bx]? = some (.cells #[.int .i64 f, .int .i64 e, .int .u8 1, .bool false, .string nm, .slice none 0 0, .int .i64 h] 90 (0, 0)) by simpa using zbe HC6.out 2 (.int .u8 1))
           have HBW2 := J (show Below wr.heap.size wr (V1.setCell ⟨bx, 2, none⟩ (.int .u8 1)) from HBW5.out.setCell HSX9.out _)
           obtain ⟨V2, hV2⟩ : ∃ V2, V2 = V1.setCell ⟨bx, 2, none⟩ (.int .u8 1) := ⟨_, rfl⟩; rw [← hV2] at HC2 HBW2; change Code.wp Try.prog _ _ _ (V1.setCell ⟨bx, 2, none⟩ (.int .u8 1))
           rw [← hV2]; clear hV2 r2 g2 lb; obtain ⟨X2, hX2⟩ : ∃ X2 : World, X2 = V2.drew := ⟨_, rfl⟩; have HB2 := J (show Below V2.heap.size V2 X2 by rw [hX2]; exact (Below.refl _ _).drew)
           have HBX2 := J (zak HBW2.out HB2.out); have HCX2 := J (zaG HC2.out HB2.out); have HSX := J (fun (w : World) (hw : Below wr.heap.size wr w) (hr : ∃ vv, w.heap[bx]? = some (.cells #[.int .i64 f, .int .i64 e, .int .u8 1, .bool false, .string nm, vv, .int .i64 h] 90 (0, 0))) => (show (w.cell? ⟨(ad.add (u * 7)).block, (ad.add (u * 7)).off + 5, none⟩ = some (.int .i64 (y.2.1 + y.1.wd)) ∧ w.cell? ⟨(ad.add (h * 7)).block, (ad.add (h * 7)).off + 5, none⟩ = some (.int .i64 (z.2.1 + z.1.wd)) ∧ w.cell? ⟨bx, 6, none⟩ = some (.int .i64 h) ∧ bx < w.heap.size) from by
            obtain ⟨vv, hr⟩ := hr; obtain ⟨ad2, e2, _, h4, h5, _⟩ := seen_at (Kd.za1 HC1.out (HFI.out.below hw).low) u y HYI.out; obtain rfl := Option.some.inj e2; obtain ⟨ad3, e3, _, k4, k5, _⟩ := seen_at (Kd.za1 HC1.out (HFI.out.below hw).low) h z HZI.out; obtain rfl := Option.some.inj e3; have h6 := zaf hr 6; simp at h6; exact ⟨h5, k5, h6, zaN hr⟩))
           have HS0 := J (HSX.out X2 HBX2.out ⟨_, HCX2.out⟩); obtain ⟨e1, he1⟩ : ∃ e1, e1 = y.2.1 + y.1.wd := ⟨_, rfl⟩; obtain ⟨e2, he2⟩ : ∃ e2, e2 = z.2.1 + z.1.wd := ⟨_, rfl⟩; rw [← he1, ← he2] at HS0 HSX HDD; clear he1 he2; have hul : u < L.length := by omega
           have HFS := J ((HFI.out.below HBX2.out).low.size)
           (try clear HST); (try clear HSTY); (try clear HYI); (try clear HKQ); (try clear HM); (try clear HNX); (try clear HU); (try clear HUI); (try clear hll); (try clear hi); (try clear HOK); (try clear HLL); (try clear HBX); (try clear HB1); (try clear HXI); (try clear HF); (try clear HE); (try clear HNM); (try clear HC1); (try clear HS); (try clear HZI); (try clear HFD); (try clear HD1); (try clear HU0); (try clear HD53); (try clear HD54); (try clear HD55); (try clear hfe0); (try clear hfe1); (try clear hfe2); (try clear HFC); (try clear HCX9); (try clear HBX9); (try clear HC6); (try clear HB5); (try clear HBW5); (try clear huu); (try clear huc); (try clear e53); (try clear e54); (try clear d66); (try clear HC2); (try clear HBW2); (try clear HB2); (try clear HFI)
           refine wp_region_noPanic (zba [0, 1, 2, 3, 4, 5, 6, 7, 8, 9, 10, 11, 12, 13, 14, 15, 16] (fun W' => W'.cell? ⟨(ad.add (u * 7)).block, (ad.add (u * 7)).off + 5, none⟩ = some (.int .i64 e1) ∧ W'.cell? ⟨(ad.add (h * 7)).block, (ad.add (h * 7)).off + 5, none⟩ = some (.int .i64 e2) ∧ W'.cell? ⟨bx, 6, none⟩ = some (.int .i64 h) ∧ bx < W'.heap.size) mixD ?_)
           rw [← hX2]; clear hX2; refine zah 0 rfl HS0.out (fun _ h => qj) ?_
           simp only [Act.put, zai]; refine zah 1 rfl HS0.out (fun _ h => qj) ?_
           simp only [Act.put, zai]; refine zah 2 rfl HS0.out (fun _ h => qj) ?_
           simp only [Act.put, zai]; refine zah 3 rfl HS0.out (fun _ h => qj) ?_
           simp only [Act.put, zai]; refine zah 4 rfl HS0.out (fun _ h => qj) ?_
           simp only [Act.put, zai]; refine zah 5 rfl HS0.out (fun _ h => qj) ?_
           simp only [Act.put, zai]; refine zah 6 rfl HS0.out (fun _ h => qj) ?_
           simp only [Act.put, zai]; refine zah 7 rfl HS0.out (fun _ h => qj) ?_
           simp only [Act.put, zai]; refine zah 8 rfl HS0.out (fun _ h => qj) ?_
           simp only [Act.put, zai]; refine zah 9 rfl HS0.out (fun _ h => qj) ?_
           simp only [Act.put, zai]; refine zah 10 rfl HS0.out (fun _ h => qj) ?_
           simp only [Act.put, zai]; refine zah 11 rfl HS0.out (fun _ h => qj) ?_
           simp only [Act.put, zai]; refine zah 12 rfl HS0.out (fun _ h => qj) ?_
           simp only [Act.put, zai]; refine zah 13 rfl HS0.out (fun _ h => qj) ?_
           simp only [Act.put, zai]; refine zaI (i := 14) rfl qb (fun K hK => ?_)
           go_simp
           obtain ⟨X3, hX3⟩ : ∃ X3 : World, X3 = X2.alloc (.cells #[.int .i64 e1, .int .i64 e2] 60) := ⟨_, rfl⟩; rw [← hX3]; have HB3 := J (show Below X2.heap.size X2 X3 by rw [hX3]; exact zad (Below.refl _ _) _)
           have HR3 := J (show Kd.R k60 60 X3 w1.heap.size (fun q => w1.heap.size ≤ q) (.slice (some ⟨X2.heap.size, 0, none⟩) 1 1) [⟨e1, e2⟩] by rw [hX3]; exact R_span1 HFS.out _ _)
           have HCX3 := J (zaG HCX2.out HB3.out); have HBX3 := J (zak HBX2.out HB3.out); have HS3 := J (HSX.out X3 HBX3.out ⟨_, HCX3.out⟩); refine hK.out _ _ (fun _ => HS3.out) (fun _ => ?_)
           clear hK K; try simp only [Act.put, zai]
           clear hX3 HS0; obtain ⟨bs, hbs⟩ : ∃ bs, bs = X2.heap.size := ⟨_, rfl⟩; rw [← hbs] at HR3; rw [← hbs]; clear hbs; refine zah 15 rfl HS3.out (fun _ h => qj) ?_
           simp only [Act.put, zai]; have r5 := zaf HCX3.out 5; have g5 := zab HCX3.out 5; have lb := zaN HCX3.out; simp at r5; have HC4 := J (show (X3.setCell ⟨bx, 5, none⟩ (.slice (some ⟨bs, 0, none⟩) 1 1)).heap[bx]? = some (.cells #[.int .i64 f, .int .i64 e, .int .u8 1, .bool false, .string nm, .slice (some ⟨bs, 0, none⟩) 1 1, .int .i64 h] 90 (0, 0)) by simpa using zbe HCX3.out 5 (.slice (some ⟨bs, 0, none⟩) 1 1))
           have HB4 := J (show Below wr.heap.size wr (X3.setCell ⟨bx, 5, none⟩ (.slice (some ⟨bs, 0, none⟩) 1 1)) from HBX3.out.setCell HSX9.out _)
           have HR4 := J (Kd.R_set HR3.out HCX3.out qe 5 (.slice (some ⟨bs, 0, none⟩) 1 1))
           have HS4 := J (HSX.out _ HB4.out ⟨_, HC4.out⟩); refine zaI (i := 16) rfl qb (fun K hK => ?_)
           go_simp
           refine hK.out _ _ (fun _ => HS4.out) (fun _ => ?_)
           clear hK K; try simp only [Act.put, zai]
           refine za3 qb (NoPanic.normal ?_) _
           clear r5 g5 lb; go_wp2_with fail
           go_meet
           exact ⟨rfl, _, ⟨HB4.out, by rw [HDD.out.1, HDD.out.2.1]; exact HC4.out, by rw [HDD.out.2.2]; exact HR4.out⟩⟩
          ·obtain ⟨hdk, hdh, hdc⟩ := HD54.out k54
           have e53 : (y.1.k == 53) = false := by simp [k54]
           have e54 : (y.1.k == 54) = true := by simp [k54]
           clear k54; obtain ⟨h, hh⟩ : ∃ h : Nat, homeK L y.2.2 = h ∧ h < L.length := by
            have huy := HOK.out.up u y HYI.out; have h0 := huy.2.1 HU0.out; have hm := homeK_mem HOK.out _ y.2.2.toNat (Nat.lt_succ_self _) q9
            rw [Int.toNat_of_nonneg h0] at hm; exact ⟨(homeK L y.2.2).toNat, q9, q9⟩
           obtain ⟨hh, hhl⟩ := hh; obtain ⟨z, hz⟩ : ∃ z, L[h]? = some z := ⟨_, List.getElem?_eq_getElem hhl⟩; have hend : endS L h = z.2.1 + z.1.wd := by unfold endS; rw [Int.toNat_natCast, hz]
           rw [hh] at hdh hdc; rw [hend] at hdc; have hcall := home_calls HOK.out (some ad) c1 wc (Kd.za1 HC1.out HFC.out.low) u y HYI.out HU0.out; rw [hh] at hcall; have HZI := J hz; have HDD := J (And.intro hdk (And.intro hdh hdc)); clear hdk hdh hdc hh hend hz r4; go_upto_region 19 with (go_at_call 56; refine hcall.mono ?_; rintro e_ w5 ⟨rfl, hb5⟩; have HB5 := J hb5; have hc5 := zaG HCX9.out hb5; have r6 := zaf hc5 6; have g6 := zab hc5 6; have lb := zaN hc5; simp at r6; clear hb5 hcall q0 q4 q5 q6 y0 y4 y5 y6)
           have HC6 := J (show (w5.setCell ⟨bx, 6, none⟩ (.int .i64 h)).heap[bx]? = some (.cells #[.int .i64 f, .int .i64 e, .int .u8 0, .bool false, .string nm, .slice none 0 0, .int .i64 h] 90 (0, 0)) by simpa using zbe hc5 6 (.int .i64 h))
           have HBW5 := J (show Below wr.heap.size wr (w5.setCell ⟨bx, 6, none⟩ (.int .i64 h)) from (zak HBX9.out HB5.out).setCell HSX9.out _)
           obtain ⟨V1, hV1⟩ : ∃ V1, V1 = w5.setCell ⟨bx, 6, none⟩ (.int .i64 h) := ⟨_, rfl⟩; rw [← hV1] at HC6 HBW5; rw [← hV1]; clear hV1 r6 g6 lb hc5; have r2 := zaf HC6.out 2; have g2 := zab HC6.out 2; have lb := zaN HC6.out; simp at r2; go_upto_region 20 with (fail)
           have HC2 := J (show (V1.setCell ⟨bx, 2, none⟩ (.int .u8 2)).heap[bx]? = some (.cells #[.int .i64 f, .int .i64 e, .int .u8 2, .bool false, .string nm, .slice none 0 0, .int .i64 h] 90 (0, 0)) by simpa using zbe HC6.out 2 (.int .u8 2))
           have HBW2 := J (show Below wr.heap.size wr (V1.setCell ⟨bx, 2, none⟩ (.int .u8 2)) from HBW5.out.setCell HSX9.out _)
           obtain ⟨V2, hV2⟩ : ∃ V2, V2 = V1.setCell ⟨bx, 2, none⟩ (.int .u8 2) := ⟨_, rfl⟩; rw [← hV2] at HC2 HBW2; change Code.wp Try.prog _ _ _ (V1.setCell ⟨bx, 2, none⟩ (.int .u8 2))
           rw [← hV2]; clear hV2 r2 g2 lb; obtain ⟨X2, hX2⟩ : ∃ X2 : World, X2 = V2.drew := ⟨_, rfl⟩; have HB2 := J (show Below V2.heap.size V2 X2 by rw [hX2]; exact (Below.refl _ _).drew)
           have HBX2 := J (zak HBW2.out HB2.out); have HCX2 := J (zaG HC2.out HB2.out); have HSX := J (fun (w : World) (hw : Below wr.heap.size wr w) (hr : ∃ vv, w.heap[bx]? = some (.cells #[.int .i64 f, .int .i64 e, .int .u8 2, .bool false, .string nm, vv, .int .i64 h] 90 (0, 0))) => (show (w.cell? ⟨(ad.add (i * 7)).block, (ad.add (i * 7)).off + 5, none⟩ = some (.int .i64 (e)) ∧ w.cell? ⟨(ad.add (h * 7)).block, (ad.add (h * 7)).off + 5, none⟩ = some (.int .i64 (z.2.1 + z.1.wd)) ∧ w.cell? ⟨bx, 6, none⟩ = some (.int .i64 h) ∧ bx < w.heap.size) from by
            obtain ⟨vv, hr⟩ := hr; obtain ⟨ad2, e2, _, h4, h5, _⟩ := seen_at (Kd.za1 HC1.out (HFI.out.below hw).low) i x HXI.out; obtain rfl := Option.some.inj e2; obtain ⟨ad3, e3, _, k4, k5, _⟩ := seen_at (Kd.za1 HC1.out (HFI.out.below hw).low) h z HZI.out; obtain rfl := Option.some.inj e3; have h6 := zaf hr 6; simp at h6; exact ⟨by rw [HE.out]; exact h5, k5, h6, zaN hr⟩))
           have HS0 := J (HSX.out X2 HBX2.out ⟨_, HCX2.out⟩); obtain ⟨e1, he1⟩ : ∃ e1, e1 = e := ⟨_, rfl⟩; obtain ⟨e2, he2⟩ : ∃ e2, e2 = z.2.1 + z.1.wd := ⟨_, rfl⟩; rw [← he2] at HS0 HSX HDD; clear he2; have hul : u < L.length := by omega
           have HFS := J ((HFI.out.below HBX2.out).low.size)
           (try clear HST); (try clear HSTY); (try clear HYI); (try clear HKQ); (try clear HM); (try clear HNX); (try clear HU); (try clear HUI); (try clear hll); (try clear hi); (try clear HOK); (try clear HLL); (try clear HBX); (try clear HB1); (try clear HXI); (try clear HF); (try clear HE); (try clear HNM); (try clear HC1); (try clear HS); (try clear HZI); (try clear HFD); (try clear HD1); (try clear HU0); (try clear HD53); (try clear HD54); (try clear HD55); (try clear hfe0); (try clear hfe1); (try clear hfe2); (try clear HFC); (try clear HCX9); (try clear HBX9); (try clear HC6); (try clear HB5); (try clear HBW5); (try clear huu); (try clear huc); (try clear e53); (try clear e54); (try clear d66); (try clear HC2); (try clear HBW2); (try clear HB2); (try clear HFI)
           refine wp_region_noPanic (zba [0, 1, 2, 3, 4, 5, 6, 7, 8, 9, 10, 11, 12, 13, 14, 15, 16] (fun W' => W'.cell? ⟨(ad.add (i * 7)).block, (ad.add (i * 7)).off + 5, none⟩ = some (.int .i64 e) ∧ W'.cell? ⟨(ad.add (h * 7)).block, (ad.add (h * 7)).off + 5, none⟩ = some (.int .i64 e2) ∧ W'.cell? ⟨bx, 6, none⟩ = some (.int .i64 h) ∧ bx < W'.heap.size) mixD ?_)
           rw [← hX2]; clear hX2; refine zah 0 rfl HS0.out (fun _ h => qj) ?_
           simp only [Act.put, zai]; refine zah 1 rfl HS0.out (fun _ h => qj) ?_
           simp only [Act.put, zai]; refine zah 2 rfl HS0.out (fun _ h => qj) ?_
           simp only [Act.put, zai]; refine zah 3 rfl HS0.out (fun _ h => qj) ?_
           simp only [Act.put, zai]; refine zah 4 rfl HS0.out (fun _ h => qj) ?_
           simp only [Act.put, zai]; refine zah 5 rfl HS0.out (fun _ h => qj) ?_
           simp only [Act.put, zai]; refine zah 6 rfl HS0.out (fun _ h => qj) ?_
           simp only [Act.put, zai]; refine zah 7 rfl HS0.out (fun _ h => qj) ?_
           simp only [Act.put, zai]; refine zah 8 rfl HS0.out (fun _ h => qj) ?_
           simp only [Act.put, zai]; refine zah 9 rfl HS0.out (fun _ h => qj) ?_
           simp only [Act.put, zai]; refine zah 10 rfl HS0.out (fun _ h => qj) ?_
           simp only [Act.put, zai]; refine zah 11 rfl HS0.out (fun _ h => qj) ?_
           simp only [Act.put, zai]; refine zah 12 rfl HS0.out (fun _ h => qj) ?_
           simp only [Act.put, zai]; refine zah 13 rfl HS0.out (fun _ h => qj) ?_
           simp only [Act.put, zai]; refine zaI (i := 14) rfl qb (fun K hK => ?_)
           go_simp
           obtain ⟨X3, hX3⟩ : ∃ X3 : World, X3 = X2.alloc (.cells #[.int .i64 e, .int .i64 e2] 60) := ⟨_, rfl⟩; rw [← hX3]; have HB3 := J (show Below X2.heap.size X2 X3 by rw [hX3]; exact zad (Below.refl _ _) _)
           have HR3 := J (show Kd.R k60 60 X3 w1.heap.size (fun q => w1.heap.size ≤ q) (.slice (some ⟨X2.heap.size, 0, none⟩) 1 1) [⟨e, e2⟩] by rw [hX3]; exact R_span1 HFS.out _ _)
           have HCX3 := J (zaG HCX2.out HB3.out); have HBX3 := J (zak HBX2.out HB3.out); have HS3 := J (HSX.out X3 HBX3.out ⟨_, HCX3.out⟩); refine hK.out _ _ (fun _ => HS3.out) (fun _ => ?_)
           clear hK K; try simp only [Act.put, zai]
           clear hX3 HS0; obtain ⟨bs, hbs⟩ : ∃ bs, bs = X2.heap.size := ⟨_, rfl⟩; rw [← hbs] at HR3; rw [← hbs]; clear hbs; refine zah 15 rfl HS3.out (fun _ h => qj) ?_
           simp only [Act.put, zai]; have r5 := zaf HCX3.out 5; have g5 := zab HCX3.out 5; have lb := zaN HCX3.out; simp at r5; have HC4 := J (show (X3.setCell ⟨bx, 5, none⟩ (.slice (some ⟨bs, 0, none⟩) 1 1)).heap[bx]? = some (.cells #[.int .i64 f, .int .i64 e, .int .u8 2, .bool false, .string nm, .slice (some ⟨bs, 0, none⟩) 1 1, .int .i64 h] 90 (0, 0)) by simpa using zbe HCX3.out 5 (.slice (some ⟨bs, 0, none⟩) 1 1))
           have HB4 := J (show Below wr.heap.size wr (X3.setCell ⟨bx, 5, none⟩ (.slice (some ⟨bs, 0, none⟩) 1 1)) from HBX3.out.setCell HSX9.out _)
           have HR4 := J (Kd.R_set HR3.out HCX3.out qe 5 (.slice (some ⟨bs, 0, none⟩) 1 1))
           have HS4 := J (HSX.out _ HB4.out ⟨_, HC4.out⟩); refine zaI (i := 16) rfl qb (fun K hK => ?_)
           go_simp
           refine hK.out _ _ (fun _ => HS4.out) (fun _ => ?_)
           clear hK K; try simp only [Act.put, zai]
           refine za3 qb (NoPanic.normal ?_) _
           clear r5 g5 lb; go_wp2_with fail
           go_meet
           exact ⟨rfl, _, ⟨HB4.out, by rw [HDD.out.1, HDD.out.2.1]; exact HC4.out, by rw [HDD.out.2.2]; exact HR4.out⟩⟩
          ·obtain ⟨hdk, hdh, hdc⟩ := HD55.out k55
           have e53 : (y.1.k == 53) = false := by simp [k55]
           have e54 : (y.1.k == 54) = false := by simp [k55]
           have e55 : (y.1.k == 55) = true := by simp [k55]
           clear k55; have huy := HOK.out.up u y HYI.out; have h0 := huy.2.1 HU0.out; obtain ⟨p, hp⟩ : ∃ p : Nat, y.2.2 = p := ⟨y.2.2.toNat, q9⟩
           obtain ⟨z, hz⟩ : ∃ z, L[p]? = some z := ⟨_, List.getElem?_eq_getElem q9⟩
           have hkz : kindS L y.2.2 = z.1.k := by rw [hp]; unfold kindS; rw [if_neg q9, Int.toNat_natCast, hz]
           rw [hkz, hp] at hdc; have hpl : p < L.length := by omega
           have hul : u < L.length := by omega
           have HZI := J hz; have HPI := J hp; have HDD := J (And.intro hdk (And.intro hdh hdc)); clear hdk hdh hdc hkz hz h0 huy hp r4 q0 q4 q5 q6 y0 y4 y5 y6; have r6 := zaf HCX9.out 6; have g6 := zab HCX9.out 6; have lb := zaN HCX9.out; simp at r6; go_upto_region 23 with (fail)
           have HC6 := J (show (wc.setCell ⟨bx, 6, none⟩ (.int .i64 u)).heap[bx]? = some (.cells #[.int .i64 f, .int .i64 e, .int .u8 0, .bool false, .string nm, .slice none 0 0, .int .i64 u] 90 (0, 0)) by simpa using zbe HCX9.out 6 (.int .i64 u))
           have HBW5 := J (show Below wr.heap.size wr (wc.setCell ⟨bx, 6, none⟩ (.int .i64 u)) from HBX9.out.setCell HSX9.out _)
           obtain ⟨V1, hV1⟩ : ∃ V1, V1 = wc.setCell ⟨bx, 6, none⟩ (.int .i64 u) := ⟨_, rfl⟩; rw [← hV1] at HC6 HBW5; change Code.wp Try.prog _ _ _ (wc.setCell ⟨bx, 6, none⟩ (.int .i64 u))
           rw [← hV1]; clear hV1 r6 g6 lb; have r2 := zaf HC6.out 2; have g2 := zab HC6.out 2; have lb := zaN HC6.out; simp at r2; go_upto_region 24 with (fail)
           have HC2 := J (show (V1.setCell ⟨bx, 2, none⟩ (.int .u8 3)).heap[bx]? = some (.cells #[.int .i64 f, .int .i64 e, .int .u8 3, .bool false, .string nm, .slice none 0 0, .int .i64 u] 90 (0, 0)) by simpa using zbe HC6.out 2 (.int .u8 3))
           have HBW2 := J (show Below wr.heap.size wr (V1.setCell ⟨bx, 2, none⟩ (.int .u8 3)) from HBW5.out.setCell HSX9.out _)
           obtain ⟨V2, hV2⟩ : ∃ V2, V2 = V1.setCell ⟨bx, 2, none⟩ (.int .u8 3) := ⟨_, rfl⟩; rw [← hV2] at HC2 HBW2; change Code.wp Try.prog _ _ _ (V1.setCell ⟨bx, 2, none⟩ (.int .u8 3))
           rw [← hV2]; clear hV2 r2 g2 lb; have HFV := J (HFI.out.below HBW2.out); obtain ⟨ad2, hA2, y0, _, _, y6⟩ := seen_at (Kd.za1 HC1.out HFV.out.low) u y HYI.out; obtain rfl := Option.some.inj hA2; obtain ⟨ad3, hA3, z0, _, _, _⟩ := seen_at (Kd.za1 HC1.out HFV.out.low) p z HZI.out; obtain rfl := Option.some.inj hA3; rw [HPI.out] at y6; clear hA2 hA3; by_cases kz : z.1.k = 54
           ·have dz : (z.1.k == 54) = true := by simp [kz]
            have HDC := J (show d.counts = zbH L p by rw [HDD.out.2.2, if_pos kz])
            clear kz; have hcall := blocks_calls HLL.out (some ad) c1 V2 (Kd.za1 HC1.out HFV.out.low) p; go_wp2_with (go_at_call 57; refine hcall.mono ?_; rintro e_ w5 ⟨v5, rfl, hR5, hb5⟩; obtain ⟨Ab, cb, eb⟩ := Kd.za4 hR5; subst eb; have HB5 := J hb5; have HR5 := J hR5; have hc5 := zaG HC2.out hb5; have r5 := zaf hc5 5; have g5 := zab hc5 5; have lb := zaN hc5; simp at r5; clear hb5 hcall hR5 y0 y6 z0)
            go_meet
            exact ⟨rfl, _, ⟨(zak HBW2.out HB5.out).setCell HSX9.out _, by rw [HDD.out.1, HDD.out.2.1]; simpa using zbe hc5 5 (.slice Ab (zbH L p).length cb), by rw [HDC.out]; exact Kd.R_set (Kd.zbl (Kd.zbz HR5.out (HFV.out.low.size)) (fun _ hq => Nat.le_trans HFV.out.low.size hq)) hc5 qe 5 _⟩⟩
           ·have dz : (z.1.k == 54) = false := by simp [kz]
            have HDC := J (show d.counts = [] by rw [HDD.out.2.2, if_neg kz])
            clear kz; go_wp2
            go_meet
            exact ⟨rfl, _, ⟨HBW2.out, by rw [HDD.out.1, HDD.out.2.1]; exact HC2.out, by rw [HDC.out]; exact Kd.R_nil _ _ _ _ _⟩⟩
        case rest =>
         obtain ⟨h8, vC, HX2⟩ := hcut; subst h8; obtain ⟨vu, rfl⟩ : ∃ v_ : Value, v_ = u8 := ⟨_, rfl⟩; obtain ⟨hb2, hc2, hr2⟩ := HX2.out; have HB2 := J hb2; have HC2 := J hc2; have HR2 := J hr2; have HFV := J (HFI.out.below hb2); obtain ⟨Ad, cd, ed⟩ := Kd.za4 HFI.out.rd; rw [List.length_map] at ed; subst ed; have HML := J (show m.length ≤ 1000000 by have h1 := congrArg List.length HM.out; rw [List.length_map] at h1; have := findS_len L s i q9; omega)
         obtain ⟨AC, cC, eC⟩ := Kd.za4 hr2; obtain ⟨dn, hdn⟩ : ∃ dn, dn = d.counts.length := ⟨_, rfl⟩; rw [← hdn] at eC; subst eC; obtain ⟨dk, hdk⟩ : ∃ dk, dk = d.kind := ⟨_, rfl⟩; obtain ⟨dh, hdh⟩ : ∃ dh, dh = d.home := ⟨_, rfl⟩; rw [← hdk, ← hdh] at HC2; have HDK := J (And.intro hdk hdh); clear hb2 hc2 hr2 HX2 kD hdk hdh hdn q0 q4 q5 q6 y0 y4 y5 y6 r4; have hml := HML.out; obtain ⟨wo, rfl⟩ : ∃ w_ : World, w_ = wr := ⟨_, rfl⟩; go_wp2
         go_loopg [13] m.length (fun kq v13 w' => ∃ (j : Nat) (ag : Bool), v13 = .int .i64 j ∧ j ≤ m.length ∧ zaa (kq = m.length - j) ∧ zaa (ag = ((m.take j).any fun c => decide (c.1.name = nm) && decide (c.1.home = dh))) ∧ zaa (Below wo.heap.size wo w' ∧ w'.heap[bx]? = some (.cells #[.int .i64 f, .int .i64 e, .int .u8 dk, .bool ag, .string nm, .slice AC dn cC, .int .i64 dh] 90 (0, 0)) ∧ Kd.R k60 60 w' w1.heap.size (fun q => w1.heap.size ≤ q) (.slice AC dn cC) d.counts))
         case atStart => exact ⟨0, false, rfl, Nat.zero_le _, ⟨rfl⟩, ⟨qf⟩, ⟨HB2.out, HC2.out, HR2.out⟩⟩
         case round =>
          obtain ⟨j, ag, rfl, hj, HKJ, HAG, HJ⟩ := hrel; obtain ⟨hbj, hcj, hrj⟩ := HJ.out; have HBJ := J hbj; have HCJ := J hcj; have HRJ := J hrj; have r4 := zaf hcj 4; have r6 := zaf hcj 6; have g3 := zab hcj 3; have r3 := zaf hcj 3; have lb := zaN hcj; simp at r3 r4 r6; clear hbj hcj hrj HJ; by_cases hjl : j < m.length
          ·obtain ⟨c, hc⟩ : ∃ c, m[j]? = some c := ⟨_, List.getElem?_eq_getElem hjl⟩
           obtain ⟨adm, e0, c4, c6⟩ := decl_at (Kd.zbk (HFI.out.below HBJ.out).rd).2.2 j c hc; subst e0; have HAJ := J (show ((m.take (j + 1)).any fun c => decide (c.1.name = nm) && decide (c.1.home = dh)) = (ag || (decide (c.1.name = nm) && decide (c.1.home = dh))) by rw [List.take_add_one, hc, List.any_append, ← HAG.out]; simp)
           clear hc; obtain ⟨cn, hcn⟩ : ∃ cn, cn = c.1.name := ⟨_, rfl⟩; obtain ⟨ch, hch⟩ : ∃ ch, ch = c.1.home := ⟨_, rfl⟩; rw [← hcn] at c4 HAJ; rw [← hch] at c6 HAJ; clear hcn hch; by_cases n1 : cn = nm
           ·have e1 : (cn.toList == nm.toList) = true := by rw [n1]; simp
            by_cases n2 : ch = dh
            ·have e2 : (ch == dh) = true := by simp [n2]
             have HAT := J (show true = ((m.take (j + 1)).any fun c => decide (c.1.name = nm) && decide (c.1.home = dh)) by rw [HAJ.out, decide_eq_true n1, decide_eq_true n2]; simp)
             clear n1 n2; go_upto_region 30 with (fail)
             go_quiet (fail)
             have HBQ := J (show Below wr.heap.size wr (wr.drewN nq) from ⟨rfl, rfl, rfl, Nat.le_refl _, fun _ _ => rfl⟩)
             obtain ⟨wq, hwq⟩ : ∃ wq : World, wq = wr.drewN nq := ⟨_, rfl⟩; rw [← hwq] at HBQ; rw [← hwq]; have HCQ := J (zaG HCJ.out HBQ.out); have HRQ := J (Kd.zbx HRJ.out HBQ.out); clear hwq r3 r4 r6 g3 lb c4 c6; have r3 := zaf HCQ.out 3; have g3 := zab HCQ.out 3; have lb := zaN HCQ.out; simp at r3; go_wp2
             go_roundg (m.length - (j + 1))
             case measure => have := HKJ.out; omega
             case rel => exact ⟨j + 1, true, qk, q9, ⟨rfl⟩, HAT, ⟨(zak HBJ.out HBQ.out).setCell HSX9.out _, by simpa using zbe HCQ.out 3 (.bool true), Kd.R_set HRQ.out HCQ.out qe 3 (.bool true)⟩⟩
            ·have e2 : (ch == dh) = false := by simp [n2]
             have HAT := J (show ag = ((m.take (j + 1)).any fun c => decide (c.1.name = nm) && decide (c.1.home = dh)) by rw [HAJ.out, decide_eq_false n2]; simp)
             clear n1 n2; go_upto_region 30 with (fail)
             go_quiet (fail)
             have HBQ := J (show Below wr.heap.size wr (wr.drewN nq) from ⟨rfl, rfl, rfl, Nat.le_refl _, fun _ _ => rfl⟩)
             go_wp2
             go_roundg (m.length - (j + 1))
             case measure => have := HKJ.out; omega
             case rel => exact ⟨j + 1, ag, qk, q9, ⟨rfl⟩, HAT, ⟨zak HBJ.out HBQ.out, zaG HCJ.out HBQ.out, Kd.zbx HRJ.out HBQ.out⟩⟩
           ·have e1 : (cn.toList == nm.toList) = false := beq_eq_false_iff_ne.mpr (fun h => n1 (ba_inj h))
            have HAT := J (show ag = ((m.take (j + 1)).any fun c => decide (c.1.name = nm) && decide (c.1.home = dh)) by rw [HAJ.out, decide_eq_false n1]; simp)
            clear n1; go_upto_region 30 with (fail)
            go_quiet (fail)
            have HBQ := J (show Below wr.heap.size wr (wr.drewN nq) from ⟨rfl, rfl, rfl, Nat.le_refl _, fun _ _ => rfl⟩)
            go_wp2
            go_roundg (m.length - (j + 1))
            case measure => have := HKJ.out; omega
            case rel => exact ⟨j + 1, ag, qk, q9, ⟨rfl⟩, HAT, ⟨zak HBJ.out HBQ.out, zaG HCJ.out HBQ.out, Kd.zbx HRJ.out HBQ.out⟩⟩
          ·have hje : j = m.length := by omega
           have HAE := J (show ag = d.again by rw [HAG.out, hje, List.take_length, HD1.out.2.2.2, ← HM.out, List.any_map, ← HDK.out.2]; rfl)
           have HFJ := J (HFI.out.below HBJ.out); have HDR := J (show rawD (d, .slice AC dn cC) = [.int .i64 f, .int .i64 e, .int .u8 dk, .bool ag, .string nm, .slice AC dn cC, .int .i64 dh] by rw [HAE.out]; simp only [rawD, HD1.out.1, HD1.out.2.1, HD1.out.2.2.1, HDK.out.1, HDK.out.2])
           have r0 := zaf HCJ.out 0; have r1 := zaf HCJ.out 1; have r2 := zaf HCJ.out 2; have r5 := zaf HCJ.out 5; simp at r0 r1 r2 r5; clear hje; obtain ⟨Y, hY⟩ : ∃ Y : World, Y = wr.alloc (.cells #[.int .i64 f, .int .i64 e, .int .u8 dk, .bool ag, .string nm, .slice AC dn cC, .int .i64 dh] 90) := ⟨_, rfl⟩; obtain ⟨g, cap, w5, hrun, hfi5⟩ := decl_app HFJ.out HML.out (d, .slice AC dn cC) HRJ.out (show Y = wr.alloc (.cells (rawD (d, .slice AC dn cC)).toArray 90) by rw [hY, HDR.out])
           have HF5 := J hfi5; have HM5 := J (show (m ++ [(d, Value.slice AC dn cC)]).map (·.1) = (findS L s i).1 ++ [d] by rw [List.map_append, HM.out]; rfl)
           rw [hY] at hrun; clear hY hfi5; go_wp2_with (at_builtin; refine wpL_app rfl _ _ _ rfl hrun ?_; clear hrun)
           go_roundg (L.length - (i + 1))
           case measure => have := HKQ.out; omega
           case rel => exact ⟨i + 1, _, _, (m ++ [(d, Value.slice AC dn cC)]), rfl, rfl, qk, q9, ⟨rfl⟩, ⟨by rw [HFD.out]; exact HF5.out⟩, ⟨by rw [HFD.out]; exact HM5.out⟩⟩
       ·have e53 : (y.1.k == 53) = false := by simp; omega
        have e54 : (y.1.k == 54) = false := by simp; omega
        have e55 : (y.1.k == 55) = false := by simp; omega
        have HFN := J (show findS L s (i + 1) = findS L s i by rw [HSTY.out, if_neg k66, if_neg kD])
        clear k66 kD; go_wp2
        go_roundg (L.length - (i + 1))
        case measure => have := HKQ.out; omega
        case rel => exact ⟨i + 1, _, _, m, rfl, rfl, qk, q9, ⟨rfl⟩, ⟨by rw [HFN.out]; exact HFC.out⟩, ⟨by rw [HFN.out]; exact HM.out⟩⟩
   ·have d6 : (x.1.k != 6) = true := by simp [hk6]
    have HF := J (show findS L s (i + 1) = findS L s i by rw [HST.out]; unfold stepD; rw [if_neg (fun h => hk6 h.1)])
    clear hk6 hsx hux; go_wp2
    go_roundg (L.length - (i + 1))
    case measure => have := HKQ.out; omega
    case rel => exact ⟨i + 1, _, _, m, rfl, rfl, qk, q9, ⟨rfl⟩, ⟨by rw [HF.out]; exact HFI.out⟩, ⟨by rw [HF.out]; exact HM.out⟩⟩
  ·have hie : i = L.length := by omega
   subst hie; go_wp2
   refine bodyPost_ret (results_tmp2 rfl _ _ _) rfl ?_
   exact ⟨_, _, m, _, rfl, HFI.out.lower HB1.out.size (Nat.le_refl _) (HB1.out.trans (HFI.out.low.mono HB1.out.size)), HM.out, rfl⟩
def countB (d : Dc) (p : Int) : Bool := d.counts.any fun c => decide (d.t ≤ p) && decide (c.f0 ≤ p) && decide (p < c.f1)
theorem count_calls (f t dk : Int) (ag : Bool) (nm : ByteArray) (ct : List S60) (dh p : Int) (AC : Option Addr) (cC : Nat) (W : World) (h : Kd.C k60 W AC ct.length ct) (hl : ct.length ≤ 9223372036854775807) :
  Calls Try.prog 41 #[.agg #[.int .i64 f, .int .i64 t, .int .u8 dk, .bool ag, .string nm, .slice AC ct.length cC, .int .i64 dh], .int .i64 p] W fun e W' => e = .returned (.bool (countB ⟨f, t, dk, ag, nm, ct, dh⟩ p)) ∧ Below W.heap.size W W' := by
 obtain ⟨X, hX⟩ : ∃ V, V = W.alloc (.cells #[.int .i64 f, .int .i64 t, .int .u8 dk, .bool ag, .string nm, .slice AC ct.length cC, .int .i64 dh] 90) := ⟨_, rfl⟩; have HBX := J (show Below W.heap.size W X by rw [hX]; exact zad (Below.refl _ _) _)
 have HK := J (show X.heap[W.heap.size]? = some (.cells #[.int .i64 f, .int .i64 t, .int .u8 dk, .bool ag, .string nm, .slice AC ct.length cC, .int .i64 dh] 90 (0, 0)) by rw [hX]; exact heap_alloc_new _ _)
 have HC := J (Kd.za1 h HBX.out); have HL := J hl; obtain ⟨r, hr⟩ : ∃ r, r = countB ⟨f, t, dk, ag, nm, ct, dh⟩ p := ⟨_, rfl⟩; rw [← hr]; have HR := J (show ((ct.drop 0).any fun c => decide (t ≤ p) && decide (c.f0 ≤ p) && decide (p < c.f1)) = r by rw [hr, List.drop_zero]; rfl)
 have hud := Try.underlying90; have huc := Try.underlying62; have hus := Try.underlying60; clear h hl hr; go_enter Try.func41, Try.ntmps41
 go_upto_region 1 with (fail)
 change Code.wp Try.prog _ _ _ (W.alloc (.cells #[.int .i64 f, .int .i64 t, .int .u8 dk, .bool ag, .string nm, .slice AC ct.length cC, .int .i64 dh] 90))
 rw [← hX]; clear hX; have p1 := zaf HK.out 1; have p5 := zaf HK.out 5; simp at p1 p5; go_wp2
 go_loopg [5] ct.length (fun kq v5 wr => ∃ i : Nat, v5 = .int .i64 i ∧ i ≤ ct.length ∧ wr = X ∧ zaa (kq = ct.length - i) ∧ zaa (((ct.drop i).any fun c => decide (t ≤ p) && decide (c.f0 ≤ p) && decide (p < c.f1)) = r))
 case atStart => exact ⟨0, rfl, Nat.zero_le _, rfl, ⟨rfl⟩, HR⟩
 case round =>
  obtain ⟨i, rfl, hi, rfl, HQ, HF⟩ := hrel; have hl := HL.out; by_cases hlt : i < ct.length
  ·obtain ⟨c, hc⟩ : ∃ c, ct[i]? = some c := ⟨_, List.getElem?_eq_getElem hlt⟩
   obtain ⟨ad, eA, q0, q1⟩ := at_T60 HC.out (i : Int) q9 q9
   subst eA; have hrd : rd_T60 ct (i : Int) = c := by
    unfold rd_T60
    rw [Int.toNat_natCast, List.getD_eq_getElem?_getD, hc]
    rfl
   rw [hrd, Int.toNat_natCast] at q0 q1; have HS := J (show ((decide (t ≤ p) && decide (c.f0 ≤ p) && decide (p < c.f1)) || ((ct.drop (i + 1)).any fun c => decide (t ≤ p) && decide (c.f0 ≤ p) && decide (p < c.f1))) = r by
    have h := HF.out; obtain ⟨h1, e1⟩ := List.getElem?_eq_some_iff.1 hc; rw [List.drop_eq_getElem_cons h1, e1, List.any_cons] at h; exact h)
   clear hc hrd; obtain ⟨x0, x1⟩ := c; simp only at q0 q1 HS; by_cases hh : t ≤ p ∧ x0 ≤ p ∧ p < x1
   ·have HT := J (show r = true by have h := HS.out; rw [decide_eq_true hh.1, decide_eq_true hh.2.1, decide_eq_true hh.2.2] at h; simpa using h.symm)
    obtain ⟨c1, c2, c3⟩ := hh; go_wp2
    go_ret
    exact ⟨by rw [HT.out]; rfl, HBX.out⟩
   ·have HN := J (show ((ct.drop (i + 1)).any fun c => decide (t ≤ p) && decide (c.f0 ≤ p) && decide (p < c.f1)) = r by
     have h := HS.out; rw [show (decide (t ≤ p) && decide (x0 ≤ p) && decide (p < x1)) = false by
      by_cases c1 : t ≤ p
      ·by_cases c2 : x0 ≤ p
       ·have c3 : ¬ p < x1 := fun h => hh ⟨c1, c2, h⟩
        simp [c3]
       ·simp [c2]
      ·simp [c1], Bool.false_or] at h
     exact h)
    by_cases c1 : t ≤ p
    ·by_cases c2 : x0 ≤ p
     ·have c3 : ¬ p < x1 := fun h => hh ⟨c1, c2, h⟩
      clear hh; go_wp2
      go_roundg (ct.length - (i + 1))
      case measure => have := HQ.out; omega
      case rel => exact ⟨i + 1, qk, q9, rfl, ⟨rfl⟩, HN⟩
     ·clear hh
      go_wp2
      go_roundg (ct.length - (i + 1))
      case measure => have := HQ.out; omega
      case rel => exact ⟨i + 1, qk, q9, rfl, ⟨rfl⟩, HN⟩
    ·clear hh
     go_wp2
     go_roundg (ct.length - (i + 1))
     case measure => have := HQ.out; omega
     case rel => exact ⟨i + 1, qk, q9, rfl, ⟨rfl⟩, HN⟩
  ·have hie : i = ct.length := by omega
   have HT := J (show r = false by have h := HF.out; rw [hie, List.drop_length] at h; exact h.symm)
   clear hie; go_wp2
   go_ret
   exact ⟨by rw [HT.out]; rfl, HBX.out⟩
def mayB (s : ByteArray) (t : S24) : Bool := decide (t.f0 = 51) && decide (t.f2 = s.size) && okB t
theorem may20_ev (s : ByteArray) (k w wd : Int) (l : List S24) (hb : byteT ⟨k, w, wd, l⟩) : Ev (fun n => zby.f n s k w wd l) (mayB s ⟨k, w, wd, l⟩) := by
 unfold mayB
 by_cases c1 : k = 51
 ·by_cases c2 : wd = s.size
  ·have := right_ref k w wd l hb
   refine Ev.congr (fun n => by unfold zby.f; rw [if_pos c1, if_pos c2]) ?_
   simp only [c1, c2, decide_true, Bool.true_and]; rw [c1, c2] at this; exact Ev.bind this (Ev.now _)
  ·refine Ev.congr (f := fun _ => some false) (fun n => by unfold zby.f; rw [if_pos c1, if_neg c2]) ?_
   simp only [c2, decide_false, Bool.and_false, Bool.false_and]; exact Ev.now _
 ·refine Ev.congr (f := fun _ => some false) (fun n => by unfold zby.f; rw [if_neg c1]) ?_
  simp only [c1, decide_false, Bool.false_and]; exact Ev.now _
def outD (d : Dc) : S62 := ⟨⟨d.f, d.t⟩, d.kind, d.again⟩
def lastD (ds : List Dc) (nm : ByteArray) (p : Int) : Nat → Int
 | 0 => -1
 | k + 1 => match ds[k]? with
  | none => lastD ds nm p k
  | some d => if d.name = nm ∧ countB d p = true then (k : Int) else lastD ds nm p k
def outU (ds : List Dc) (u : Us) : S95 := ⟨⟨u.1, u.2.1⟩, lastD ds u.2.2 u.1 ds.length⟩
def of20 (s : ByteArray) (T : AT) : List S62 × List S95 × Int :=
 if mayB s T.erase then (((findS (seenT T 0 (-1) 0) s (seenT T 0 (-1) 0).length).1.map outD), ((findS (seenT T 0 (-1) 0) s (seenT T 0 (-1) 0).length).2.map (outU (findS (seenT T 0 (-1) 0) s (seenT T 0 (-1) 0).length).1)), 0) else ([], [], 150)
structure NmI (w3 w : World) (b8 : Nat) (v0 vb : Value) (ds : List S62) (bs : List S95) : Prop where
 low : Below w3.heap.size w3 w
 cell : w.heap[b8]? = some (.cells #[v0, vb] 47 (0, 0))
 rd : Kd.R k62 62 w w3.heap.size (fun q => w3.heap.size ≤ q) v0 ds
 rb : Kd.R k95 95 w w3.heap.size (fun q => w3.heap.size ≤ q) vb bs
theorem NmI.below {w3 w w' : World} {b8 : Nat} {v0 vb : Value} {ds : List S62} {bs : List S95} (h : NmI w3 w b8 v0 vb ds bs) (hb : Below w.heap.size w w') : NmI w3 w' b8 v0 vb ds bs :=
 ⟨zbL h.low hb h.low.size, zaG h.cell hb, Kd.zbx h.rd hb, Kd.zbx h.rb hb⟩
theorem infoD72 : (Try.prog.info? 62).map (fun i => (i.zero, i.size, i.bytes)) = some (some (.agg #[.int .i64 0, .int .i64 0, .int .u8 0, .bool false]), 4, 24) := by kernel_rfl
theorem infoB43 : (Try.prog.info? 95).map (fun i => (i.zero, i.size, i.bytes)) = some (some (.agg #[.int .i64 0, .int .i64 0, .int .i64 0]), 3, 24) := by kernel_rfl
theorem typed_ne {X : World} {k b : Nat} {cs cs' : Array Value} {t t' : TypeId} (h : X.heap[k]? = some (Obj.cells cs t (0, 0))) (h' : X.heap[b]? = some (Obj.cells cs' t' (0, 0))) (hn : t ≠ t') : k ≠ b := fun e => by
 rw [e, h'] at h; injection h with h
 injection h with _ h2 _
 exact hn h2.symm
theorem names_d {w3 X Y : World} {b8 n c : Nat} {A : Option Addr} {vb : Value} {ds : List S62} {bs : List S95} (h : NmI w3 X b8 (.slice A n c) vb ds bs) (hb8 : w3.heap.size ≤ b8) (hl : ds.length ≤ 1000000) (p : S62) (hY : Y = X.alloc (.cells #[.int .i64 p.f0.f0, .int .i64 p.f0.f1, .int .u8 p.f1, .bool p.f2] 62)) :
  ∃ (g cap : Nat) (w5 : World), (Builtin.append_ #[44, 44] 44 #[.slice A n c, .slice (some ⟨X.heap.size, 0, none⟩) 1 1]).run Try.prog Y = .ok (.slice (some ⟨g, 0, none⟩) (n + 1) cap) w5 ∧ Below w3.heap.size w3 w5 ∧ w5.heap[b8]? = some (.cells #[.slice A n c, vb] 47 (0, 0)) ∧ NmI w3 (w5.setCell ⟨b8, 0, none⟩ (.slice (some ⟨g, 0, none⟩) (n + 1) cap)) b8 (.slice (some ⟨g, 0, none⟩) (n + 1) cap) vb (ds ++ [p]) bs := by
 have hsz := h.low.size; have hbY : Below X.heap.size X Y := by rw [hY]; exact zad (Below.refl _ _) _
 obtain ⟨g, cap, w5, hrun, hg5, hgo5, hbg5, hnl, hR5⟩ := zbN k62 62 44 h.rd hsz (fun q hq => q9) Try.underlying44 infoD72 rfl qe qe q9 hbY p [.int .i64 p.f0.f0, .int .i64 p.f0.f1, .int .u8 p.f1, .bool p.f2] Q3 (k62_mkM _ _ _ _) rfl Qs
 have hc5 : w5.heap[b8]? = some (.cells #[.slice A n c, vb] 47 (0, 0)) := (hg5.block _ (zaN h.cell) (fun e => by
  obtain ⟨cs2, h2⟩ := Kd.R_typed h.rd b8 e.symm; exact typed_ne h2 h.cell qe rfl)).trans h.cell
 have hl5 : Below w3.heap.size w3 w5 := h.low.grown hg5 hsz (fun k hk => h.rd.1 k hk)
 refine ⟨g, cap, w5, hrun, hl5, hc5, hl5.setCell hb8 _, by simpa using zbe hc5 0 (.slice (some ⟨g, 0, none⟩) (n + 1) cap), Kd.R_set hR5 hc5 qe 0 _, Kd.R_set (Kd.R_over' h.rb (Kd.R_typed h.rd) qe hg5) hc5 qe 0 _⟩
theorem names_b {w3 X Y : World} {b8 n c : Nat} {A : Option Addr} {v0 : Value} {ds : List S62} {bs : List S95} (h : NmI w3 X b8 v0 (.slice A n c) ds bs) (hb8 : w3.heap.size ≤ b8) (hl : bs.length ≤ 1000000) (p : S95) (hY : Y = X.alloc (.cells #[.int .i64 p.f0.f0, .int .i64 p.f0.f1, .int .i64 p.f1] 95)) :
  ∃ (g cap : Nat) (w5 : World), (Builtin.append_ #[45, 45] 45 #[.slice A n c, .slice (some ⟨X.heap.size, 0, none⟩) 1 1]).run Try.prog Y = .ok (.slice (some ⟨g, 0, none⟩) (n + 1) cap) w5 ∧ Below w3.heap.size w3 w5 ∧ w5.heap[b8]? = some (.cells #[v0, .slice A n c] 47 (0, 0)) ∧ NmI w3 (w5.setCell ⟨b8, 1, none⟩ (.slice (some ⟨g, 0, none⟩) (n + 1) cap)) b8 v0 (.slice (some ⟨g, 0, none⟩) (n + 1) cap) ds (bs ++ [p]) := by
 have hsz := h.low.size; have hbY : Below X.heap.size X Y := by rw [hY]; exact zad (Below.refl _ _) _
 obtain ⟨g, cap, w5, hrun, hg5, hgo5, hbg5, hnl, hR5⟩ := zbN k95 95 45 h.rb hsz (fun q hq => q9) Try.underlying45 infoB43 rfl qe qe q9 hbY p [.int .i64 p.f0.f0, .int .i64 p.f0.f1, .int .i64 p.f1] Q3 (k95_mkM _ _ _ _) rfl Qr
 have hc5 : w5.heap[b8]? = some (.cells #[v0, .slice A n c] 47 (0, 0)) := (hg5.block _ (zaN h.cell) (fun e => by
  obtain ⟨cs2, h2⟩ := Kd.R_typed h.rb b8 e.symm; exact typed_ne h2 h.cell qe rfl)).trans h.cell
 have hl5 : Below w3.heap.size w3 w5 := h.low.grown hg5 hsz (fun k hk => h.rb.1 k hk)
 refine ⟨g, cap, w5, hrun, hl5, hc5, hl5.setCell hb8 _, by simpa using zbe hc5 1 (.slice (some ⟨g, 0, none⟩) (n + 1) cap), Kd.R_set (Kd.R_over' h.rd (Kd.R_typed h.rb) qe hg5) hc5 qe 1 _, Kd.R_set hR5 hc5 qe 1 _⟩
theorem decl_all {W : World} {A : Option Addr} {L : List Dm} (h : Kd.C (Kd.raw 7) W A (L.map rawD).length (L.map rawD)) (i : Nat) (x : Dm) (hx : L[i]? = some x) : ∃ ad, A = some ad ∧ W.cell? (ad.add (i * 7)) = some (.int .i64 x.1.f) ∧ ∀ j u, 0 < j → (rawD x)[j]? = some u → W.cell? ⟨(ad.add (i * 7)).block, (ad.add (i * 7)).off + j, none⟩ = some u := by
 have hi : i < L.length := (List.getElem?_eq_some_iff.1 hx).1; obtain ⟨ad, c, e, _, hK, hc0⟩ := Kd.C_get h [] (i : Int) q9 (by simpa using hi)
 have hc : ∀ j u, c[j]? = some u → W.cell? (ad.add (i * 7 + j)) = some u := fun j u hu => by have := hc0 j u hu; rw [Int.toNat_natCast] at this; exact this
 have hc' : c = rawD x := by
  have h1 := hK.1; rw [h1, Int.toNat_natCast, List.getD_eq_getElem?_getD, List.getElem?_map, hx]
  rfl
 subst hc'; exact ⟨ad, e, by simpa using hc 0 _ rfl, fun j u hj hu => by rw [← zbm _ _ j hj]; exact hc j u hu⟩
theorem use_at {W : World} {A : Option Addr} {L : List Us} (h : Kd.C (Kd.raw 3) W A (L.map rawU).length (L.map rawU)) (i : Nat) (x : Us) (hx : L[i]? = some x) : ∃ ad, A = some ad ∧ W.cell? (ad.add (i * 3)) = some (.int .i64 x.1) ∧ W.cell? ⟨(ad.add (i * 3)).block, (ad.add (i * 3)).off + 1, none⟩ = some (.int .i64 x.2.1) ∧ W.cell? ⟨(ad.add (i * 3)).block, (ad.add (i * 3)).off + 2, none⟩ = some (.string x.2.2) := by
 have hi : i < L.length := (List.getElem?_eq_some_iff.1 hx).1; obtain ⟨ad, c, e, _, hK, hc0⟩ := Kd.C_get h [] (i : Int) q9 (by simpa using hi)
 have hc : ∀ j u, c[j]? = some u → W.cell? (ad.add (i * 3 + j)) = some u := fun j u hu => by have := hc0 j u hu; rw [Int.toNat_natCast] at this; exact this
 have hc' : c = rawU x := by
  have h1 := hK.1; rw [h1, Int.toNat_natCast, List.getD_eq_getElem?_getD, List.getElem?_map, hx]
  rfl
 subst hc'; exact ⟨ad, e, by simpa using hc 0 _ rfl, Q7, Qb⟩
theorem of20_calls (s : ByteArray) (T : AT) (W : World) (hT : AtT W T) (hby : byteT T.erase) (hn : nT T ≤ 1000000) (hs : s.size ≤ 1099511627776) :
  Calls Try.prog 14 #[.string s, T.val] W fun e W' => ∃ vd vb, e = .returned (.tuple #[.agg #[vd, vb], .int .i64 (of20 s T).2.2]) ∧ Below W.heap.size W W' ∧ Kd.R k62 62 W' W.heap.size (fun q => W.heap.size ≤ q) vd (of20 s T).1 ∧ Kd.R k95 95 W' W.heap.size (fun q => W.heap.size ≤ q) vb (of20 s T).2.1 := by
 obtain ⟨X1, hX1⟩ : ∃ V, V = W.alloc (.cells #[.int .u8 T.k, .int .u8 T.w, .int .i64 T.wd, .slice T.A T.kids.length T.c] 24) := ⟨_, rfl⟩; obtain ⟨X, hX⟩ : ∃ V, V = X1.alloc (.cells #[.slice none 0 0, .slice none 0 0] 47) := ⟨_, rfl⟩; have hs1 : X1.heap.size = W.heap.size + 1 := by rw [hX1]; simp
 have b1 : Below W.heap.size W X1 := by rw [hX1]; exact zad (Below.refl _ _) _
 have b2 : Below X1.heap.size X1 X := by rw [hX]; exact zad (Below.refl _ _) _
 have HBX := J (zak b1 b2); have HK1 := J (show X.heap[W.heap.size]? = some (.cells #[.int .u8 T.k, .int .u8 T.w, .int .i64 T.wd, .slice T.A T.kids.length T.c] 24 (0, 0)) from zaG (by rw [hX1]; exact heap_alloc_new _ _) b2)
 have HK4 := J (show X.heap[W.heap.size + 1]? = some (.cells #[.slice none 0 0, .slice none 0 0] 47 (0, 0)) by rw [hX, ← hs1]; exact heap_alloc_new _ _)
 have HT := J hT; have HNT := J hn; have HSS := J hs; have hera : T.erase = ⟨T.k, T.w, T.wd, zbr T.kids⟩ := by cases T; rfl
 obtain ⟨km, hkm⟩ := may20_ev s T.k T.w T.wd (zbr T.kids) (by rw [← hera]; exact hby)
 obtain ⟨bm, hbm⟩ : ∃ bm, bm = mayB s ⟨T.k, T.w, T.wd, zbr T.kids⟩ := ⟨_, rfl⟩; have hmay := hkm km (Nat.le_refl _); rw [← hbm] at hmay; have hCk := C_of_AT _ T (Nat.lt_succ_self _) W hT; have hkc : T.kids.length ≤ T.c := by cases T; simp only [AtT] at hT; exact hT.1
 have hel := zbj T.kids; have hcall := zby.calls km s T.k T.w T.wd T.A T.c (zbr T.kids) bm X (by rw [hel]; exact Kd.za1 hCk HBX.out) (by rw [hel]; exact hkc) hmay
 rw [hel] at hcall; have HBM := J (show mayB s T.erase = bm by rw [hbm, hera])
 have HG := J (show bm = true → goodT T.erase ∧ T.k = 51 ∧ T.wd = s.size from fun h => by
  have h1 := HBM.out; rw [h] at h1; unfold mayB at h1
  simp only [Bool.and_eq_true, decide_eq_true_eq] at h1; obtain ⟨⟨ha, hb⟩, hc⟩ := h1; rw [hera] at ha hb; exact ⟨ok_good _ hby hc, ha, hb⟩)
 have hun := Try.underlying24; have hum := Try.underlying47; have hud := Try.underlying90; have huu := Try.underlying92; have huc := Try.underlying62; have hup := Try.underlying60; have hub := Try.underlying95; simp only [AT.val]; clear hT hby hn hs hera hkm hbm hmay hCk hkc hel hs1 b1 b2; go_enter Try.func14, Try.ntmps14
 go_upto_region 1 with (fail)
 change Code.wp Try.prog _ _ _ ((W.alloc (.cells #[.int .u8 T.k, .int .u8 T.w, .int .i64 T.wd, .slice T.A T.kids.length T.c] 24)).alloc (.cells #[.slice none 0 0, .slice none 0 0] 47))
 rw [← hX1, ← hX]; clear hX hX1; have p0 := zaf HK1.out 0; have p1 := zaf HK1.out 1; have p2 := zaf HK1.out 2; have p3 := zaf HK1.out 3; simp at p0 p1 p2 p3; cases bm with
 | false =>
  have HOF := J (show of20 s T = ([], [], 150) by unfold of20; rw [HBM.out]; rfl)
  go_upto_region 2 with (go_at_call 39; refine hcall.mono ?_; rintro e w2 ⟨rfl, hb2⟩; have HB2 := J hb2; have hk4 := zaG HK4.out hb2; have HC4 := J hk4; have r0 := zaf hk4 0; have r1 := zaf hk4 1; have g0 := zab hk4 0; have g1 := zab hk4 1; have lb := zaN hk4; simp at r0 r1; clear hb2 hcall p0 p1 p2 p3 hk4)
  go_wp2
  have hz := zbe (zbe HC4.out 0 (.slice none 0 0)) 1 (.slice none 0 0); simp at hz; refine bodyPost_ret (zbO rfl _ _ (W.heap.size + 1) 47 _ (0, 0) _ rfl hz Try.underlying47 rfl qb) rfl ?_
  have hb : W.heap.size ≤ W.heap.size + 1 := Nat.le_succ _; exact ⟨_, _, qS, ((zak HBX.out HB2.out).setCell hb _).setCell hb _, Q4, Q4⟩
 | true =>
  obtain ⟨hg, hk51, hwd⟩ := HG.out rfl; obtain ⟨L, hL⟩ : ∃ L, L = seenT T 0 (-1) 0 := ⟨_, rfl⟩; obtain ⟨dl, hdl⟩ : ∃ dl, dl = (findS L s L.length).1 := ⟨_, rfl⟩; obtain ⟨ul, hul⟩ : ∃ ul, ul = (findS L s L.length).2 := ⟨_, rfl⟩; have HOF := J (show of20 s T = (dl.map outD, ul.map (outU dl), 0) by unfold of20; rw [HBM.out, if_pos rfl, ← hL, ← hdl, ← hul])
  have h1L := findS_len L s L.length (Nat.le_refl _); rw [← hdl, ← hul] at h1L; have h2L : L.length ≤ 1000000 := by rw [hL, zbK]; exact HNT.out
  have HLN := J (show dl.length ≤ 1000000 ∧ ul.length ≤ 1000000 by omega)
  clear h1L h2L; have HFIND := J (fun (w : World) (hw : Below W.heap.size W w) => find_calls s T w (AtT.below hw T HT.out) hg hk51 hwd HNT.out HSS.out)
  rw [← hL, ← hdl, ← hul] at HFIND; simp only [AT.val] at HFIND; clear hg hk51 hwd hL hdl hul; go_upto_region 3 with (go_at_call 39; refine hcall.mono ?_; rintro e w2 ⟨rfl, hb2⟩; have HB2 := J hb2; have HC4 := J (zaG HK4.out hb2); clear hcall p0 p1 p2 p3; have hk1 := zaG HK1.out hb2; have p0 := zaf hk1 0; have p1 := zaf hk1 1; have p2 := zaf hk1 2; have p3 := zaf hk1 3; simp at p0 p1 p2 p3; clear hk1 hb2)
  have HBW2 := J (zak HBX.out HB2.out); go_upto_region 4 with (go_at_call 40; refine (HFIND.out w2 HBW2.out).mono ?_; rintro e w3 ⟨vd, vu, m, us, rfl, hfi, hm, rfl⟩; have HF3 := J hfi; have HM := J hm; clear hfi hm p0 p1 p2 p3)
  obtain ⟨X8, hX8⟩ : ∃ V, V = w3.alloc (.cells #[.slice none 0 0, .slice none 0 0] 47) := ⟨_, rfl⟩; have HB8 := J (show Below w3.heap.size w3 X8 by rw [hX8]; exact zad (Below.refl _ _) _)
  have HN8 := J (show NmI w3 X8 w3.heap.size (.slice none 0 0) (.slice none 0 0) [] [] from ⟨HB8.out, by rw [hX8]; exact heap_alloc_new _ _, Kd.R_nil _ _ _ _ _, Kd.R_nil _ _ _ _ _⟩)
  have HC43 := J (show w3.heap[W.heap.size + 1]? = some (.cells #[.slice none 0 0, .slice none 0 0] 47 (0, 0)) from zaG HC4.out HF3.out.low)
  go_upto_region 5 with (fail)
  change Code.wp Try.prog _ _ _ (w3.alloc (.cells #[.slice none 0 0, .slice none 0 0] 47))
  rw [← hX8]; clear hX8; obtain ⟨b8, hb8⟩ : ∃ b8, b8 = w3.heap.size := ⟨_, rfl⟩; rw [← hb8] at HN8; have HB8L := J (show w3.heap.size ≤ b8 by omega)
  have HB4N := J (show W.heap.size + 1 < b8 by have := zaN HC43.out; omega)
  rw [← hb8]; clear hb8 HB8; obtain ⟨Ad, cd, ed⟩ := Kd.za4 HF3.out.rd; rw [List.length_map] at ed; subst ed; obtain ⟨Au, cu, eu⟩ := Kd.za4 HF3.out.ru; rw [List.length_map] at eu; subst eu; have HML := J (show m.length = dl.length by rw [← HM.out, List.length_map])
  have HRD := J (fun (w : World) (hw : Below w3.heap.size w3 w) => (Kd.zbk (HF3.out.below hw).rd).2.2)
  have HRU := J (fun (w : World) (hw : Below w3.heap.size w3 w) => (Kd.zbk (HF3.out.below hw).ru).2.2)
  have hml : m.length ≤ 1000000 := by have := HML.out; have := HLN.out.1; omega
  have hul : us.length ≤ 1000000 := HLN.out.2; go_wp2
  go_loopg [9] m.length (fun kq v9 w' => ∃ (i : Nat), v9 = .int .i64 i ∧ i ≤ m.length ∧ zaa (kq = m.length - i) ∧ ∃ v0, zaa (NmI w3 w' b8 v0 (.slice none 0 0) (((m.take i).map (·.1)).map outD) []))
  case atStart => exact ⟨0, rfl, Nat.zero_le _, ⟨rfl⟩, _, ⟨by simpa using HN8.out⟩⟩
  case round =>
   obtain ⟨i, rfl, hi, HKQ, v0, HNI⟩ := hrel; by_cases hlt : i < m.length
   ·obtain ⟨x, hx⟩ : ∃ x, m[i]? = some x := ⟨_, List.getElem?_eq_getElem hlt⟩
    obtain ⟨adm, hA, _, _⟩ := decl_all (HRD.out wr HNI.out.low) i x hx; subst hA; obtain ⟨A0, c0, e0⟩ := Kd.za4 HNI.out.rd; obtain ⟨n0, hn0⟩ : ∃ n0, n0 = (((m.take i).map (·.1)).map outD).length := ⟨_, rfl⟩; rw [← hn0] at e0; subst e0; have HXI := J hx; have HNX := J (show ((m.take (i + 1)).map (·.1)).map outD = ((m.take i).map (·.1)).map outD ++ [outD x.1] by rw [List.take_add_one, hx]; simp)
    have HN0 := J (show (((m.take i).map (·.1)).map outD).length ≤ 1000000 by simp only [List.length_map, List.length_take]; omega)
    clear hx hn0; obtain ⟨⟨f, e, dk, ag, nm, ct, dh⟩, vC⟩ := x; go_upto_region 8 with (fail)
    obtain ⟨X2, hX2⟩ : ∃ X2 : World, X2 = wr.drew := ⟨_, rfl⟩; have HB2' := J (show Below wr.heap.size wr X2 by rw [hX2]; exact (Below.refl _ _).drew)
    have HN2 := J (HNI.out.below HB2'.out); have HSX := J (fun (w : World) (hw : Below w3.heap.size w3 w) (hc : w.heap[b8]? = some (.cells #[.slice A0 n0 c0, .slice none 0 0] 47 (0, 0))) => (show (w.cell? ⟨b8, 0, none⟩ = some (.slice A0 n0 c0) ∧ b8 < w.heap.size) ∧ w.cell? (adm.add (i * 7)) = some (.int .i64 f) ∧ w.cell? ⟨(adm.add (i * 7)).block, (adm.add (i * 7)).off + 1, none⟩ = some (.int .i64 e) ∧ w.cell? ⟨(adm.add (i * 7)).block, (adm.add (i * 7)).off + 2, none⟩ = some (.int .u8 dk) ∧ w.cell? ⟨(adm.add (i * 7)).block, (adm.add (i * 7)).off + 3, none⟩ = some (.bool ag) from by
     obtain ⟨ad2, e2, h0, hq⟩ := decl_all (HRD.out w hw) i _ HXI.out; obtain rfl := Option.some.inj e2; have h4 := zaf hc 0; simp at h4; exact ⟨⟨h4, zaN hc⟩, h0, hq 1 _ qe rfl, hq 2 _ qe rfl, hq 3 _ qe rfl⟩))
    obtain ⟨g, cap, w5, hrun, hl5, hc5, hn5⟩ := names_d HN2.out HB8L.out HN0.out (outD ⟨f, e, dk, ag, nm, ct, dh⟩) rfl; have HL5 := J hl5; have HC5 := J hc5; have HN5 := J hn5; have HS0 := J (HSX.out X2 HN2.out.low HN2.out.cell); have HS7 := J (HSX.out (X2.alloc (.cells #[.int .i64 f, .int .i64 e, .int .u8 dk, .bool ag] 62)) (HN2.out.below (zad (Below.refl _ _) _)).low (HN2.out.below (zad (Below.refl _ _) _)).cell); have HS8 := J (HSX.out w5 hl5 hc5); clear hl5 hc5 hn5; refine wp_region_noPanic (zba [0, 1, 2, 3, 4, 5, 6, 7, 8, 9] (fun W' => (W'.cell? ⟨b8, 0, none⟩ = some (.slice A0 n0 c0) ∧ b8 < W'.heap.size) ∧ W'.cell? (adm.add (i * 7)) = some (.int .i64 f) ∧ W'.cell? ⟨(adm.add (i * 7)).block, (adm.add (i * 7)).off + 1, none⟩ = some (.int .i64 e) ∧ W'.cell? ⟨(adm.add (i * 7)).block, (adm.add (i * 7)).off + 2, none⟩ = some (.int .u8 dk) ∧ W'.cell? ⟨(adm.add (i * 7)).block, (adm.add (i * 7)).off + 3, none⟩ = some (.bool ag)) mixD ?_)
    rw [← hX2]; clear hX2; refine zah 0 rfl HS0.out (fun _ h => Q5) ?_
    simp only [Act.put, zai]; refine zah 1 rfl HS0.out (fun _ h => Q5) ?_
    simp only [Act.put, zai]; refine zah 2 rfl HS0.out (fun _ h => Q5) ?_
    simp only [Act.put, zai]; refine zah 3 rfl HS0.out (fun _ h => Q5) ?_
    simp only [Act.put, zai]; refine zah 4 rfl HS0.out (fun _ h => Q5) ?_
    simp only [Act.put, zai]; refine zah 5 rfl HS0.out (fun _ h => Q5) ?_
    simp only [Act.put, zai]; refine zah 6 rfl HS0.out (fun _ h => Q5) ?_
    simp only [Act.put, zai]; refine zaI (i := 7) rfl qb (fun K hK => ?_)
    go_simp
    refine hK.out _ _ (fun _ => HS7.out) (fun _ => ?_)
    clear hK K; try simp only [Act.put, zai]
    refine zaI (i := 8) rfl qb (fun K hK => ?_)
    refine wpO_app (by rfl) _ _ _ rfl hrun ?_
    clear hrun; refine hK.out _ _ (fun _ => HS8.out) (fun _ => ?_)
    clear hK K; try simp only [Act.put, zai]
    refine zah 9 rfl HS8.out (fun _ h => Q5) ?_
    simp only [Act.put, zai]; have r0 := zaf HC5.out 0; have g0 := zab HC5.out 0; have lb := zaN HC5.out; simp at r0; refine zaI (i := 10) rfl qb (fun K hK => ?_)
    go_simp
    refine hK.out _ _ (fun h => Bool.noConfusion (show false = true from h)) (fun _ => ?_)
    clear hK K; try simp only [Act.put, zai]
    refine za3 qb (NoPanic.normal ?_) _
    clear r0 g0 lb; go_wp2_with fail
    go_roundg (m.length - (i + 1))
    case measure => have := HKQ.out; omega
    case rel => exact ⟨i + 1, qk, q9, ⟨rfl⟩, _, ⟨by rw [HNX.out]; exact HN5.out⟩⟩
   have hie : i = m.length := by omega
   subst hie; have HNA := J (show NmI w3 wr b8 v0 (.slice none 0 0) (dl.map outD) [] by have h := HNI.out; rw [List.take_length, HM.out] at h; exact h)
   obtain ⟨wo, rfl⟩ : ∃ w_ : World, w_ = wr := ⟨_, rfl⟩; clear hi hlt HNI; go_wp2
   go_loopg [10] us.length (fun kq v10 w' => ∃ (i : Nat), v10 = .int .i64 i ∧ i ≤ us.length ∧ zaa (kq = us.length - i) ∧ ∃ vb, zaa (NmI w3 w' b8 v0 vb (dl.map outD) ((us.take i).map (outU dl))))
   case atStart => exact ⟨0, rfl, Nat.zero_le _, ⟨rfl⟩, _, ⟨by simpa using HNA.out⟩⟩
   case round =>
    obtain ⟨i, rfl, hi, HKQ2, vb, HNI⟩ := hrel; by_cases hlt : i < us.length
    ·obtain ⟨x, hx⟩ : ∃ x, us[i]? = some x := ⟨_, List.getElem?_eq_getElem hlt⟩
     obtain ⟨adu, hA, _, _, _⟩ := use_at (HRU.out wr HNI.out.low) i x hx; subst hA; have HUI := J hx; have HNX := J (show (us.take (i + 1)).map (outU dl) = (us.take i).map (outU dl) ++ [outU dl x] by rw [List.take_add_one, hx]; simp)
     have HN0 := J (show ((us.take i).map (outU dl)).length ≤ 1000000 by simp only [List.length_map, List.length_take]; omega)
     have HDLM := J (show m.length = dl.length from HML.out)
     clear hx; obtain ⟨uf, ue, un⟩ := x; obtain ⟨wu, rfl⟩ : ∃ w_ : World, w_ = wr := ⟨_, rfl⟩; go_wp2
     go_loopg [11, 12] m.length (fun kq v11 v12 w' => ∃ (k : Nat), v11 = .int .i64 (lastD dl un uf k) ∧ v12 = .int .i64 k ∧ k ≤ m.length ∧ zaa (kq = m.length - k) ∧ zaa (Below wu.heap.size wu w'))
     case atStart => exact ⟨0, rfl, rfl, Nat.zero_le _, ⟨rfl⟩, ⟨Below.refl _ _⟩⟩
     case round =>
      obtain ⟨k, rfl, rfl, hk, HKK, HBK⟩ := hrel; have HNK := J (HNI.out.below HBK.out); by_cases hkl : k < m.length
      ·obtain ⟨c, hc⟩ : ∃ c, m[k]? = some c := ⟨_, List.getElem?_eq_getElem hkl⟩
       have hdc : dl[k]? = some c.1 := by rw [← HM.out, List.getElem?_map, hc]; rfl
       have HLD := J (show lastD dl un uf (k + 1) = if c.1.name = un ∧ countB c.1 uf = true then (k : Int) else lastD dl un uf k by simp only [lastD, hdc])
       obtain ⟨adm, hA, q0, qq⟩ := decl_all (HRD.out wr HNK.out.low) k c hc; subst hA; obtain ⟨AC, cC, eC⟩ := Kd.za4 (HF3.out.rc c (List.mem_of_getElem? hc)); obtain ⟨adu2, hA2, u0, u1, u2⟩ := use_at (HRU.out wr HNK.out.low) i _ HUI.out; obtain rfl := Option.some.inj hA2; have HCI := J hc; have HRC := J (HF3.out.rc c (List.mem_of_getElem? hc)); clear hc hdc hA2; obtain ⟨⟨f, e, dk, ag, nm, ct, dh⟩, vC⟩ := c; simp only at eC; subst eC; have q4 := qq 4 _ qe rfl
       simp only at q0 q4 u0 u1 u2; obtain ⟨ld, hld⟩ : ∃ ld, ld = lastD dl un uf k := ⟨_, rfl⟩; have HLK := J hld; rw [← hld] at HLD; rw [← hld]; clear hld qq; by_cases n1 : nm = un
       ·have e1 : (nm.toList == un.toList) = true := by rw [n1]; simp
        obtain ⟨rb, hrb⟩ : ∃ rb, rb = countB ⟨f, e, dk, ag, nm, ct, dh⟩ uf := ⟨_, rfl⟩; have HLN2 := J (show lastD dl un uf (k + 1) = if rb = true then (k : Int) else ld by rw [HLD.out, hrb]; simp only [n1, true_and])
        have hctl : ct.length ≤ 9223372036854775807 := (Kd.zbk HRC.out).2.2.2.1; have HCT := J hctl; have HCF := J hrb; clear hrb hctl n1 q0 q4 u0 u1 u2; go_upto_region 16 with (fail)
        obtain ⟨X2, hX2⟩ : ∃ X2 : World, X2 = wr.drew := ⟨_, rfl⟩; have HB2' := J (show Below wr.heap.size wr X2 by rw [hX2]; exact (Below.refl _ _).drew)
        have HN2 := J (HNK.out.below HB2'.out); have HSX := J (fun (w : World) (hw : Below w3.heap.size w3 w) => (show (w.cell? (adm.add (k * 7)) = some (.int .i64 f) ∧ w.cell? ⟨(adm.add (k * 7)).block, (adm.add (k * 7)).off + 1, none⟩ = some (.int .i64 e) ∧ w.cell? ⟨(adm.add (k * 7)).block, (adm.add (k * 7)).off + 2, none⟩ = some (.int .u8 dk) ∧ w.cell? ⟨(adm.add (k * 7)).block, (adm.add (k * 7)).off + 3, none⟩ = some (.bool ag) ∧ w.cell? ⟨(adm.add (k * 7)).block, (adm.add (k * 7)).off + 4, none⟩ = some (.string nm) ∧ w.cell? ⟨(adm.add (k * 7)).block, (adm.add (k * 7)).off + 5, none⟩ = some (.slice AC ct.length cC) ∧ w.cell? ⟨(adm.add (k * 7)).block, (adm.add (k * 7)).off + 6, none⟩ = some (.int .i64 dh)) ∧ w.cell? (adu.add (i * 3)) = some (.int .i64 uf) ∧ w.cell? ⟨(adu.add (i * 3)).block, (adu.add (i * 3)).off + 2, none⟩ = some (.string un) from by
         obtain ⟨ad2, e2, h0, hq⟩ := decl_all (HRD.out w hw) k _ HCI.out; obtain rfl := Option.some.inj e2; obtain ⟨ad3, e3, k0, _, k2⟩ := use_at (HRU.out w hw) i _ HUI.out; obtain rfl := Option.some.inj e3; exact ⟨⟨h0, hq 1 _ qe rfl, hq 2 _ qe rfl, hq 3 _ qe rfl, hq 4 _ qe rfl, hq 5 _ qe rfl, hq 6 _ qe rfl⟩, k0, k2⟩))
        have HS0 := J (HSX.out X2 HN2.out.low); refine wp_region_noPanic (zba [0, 1, 2, 3, 4, 5, 6, 7, 8, 9, 10, 11, 12, 13, 14, 15, 16, 17, 18, 19, 20, 21, 22, 23] (fun w => (w.cell? (adm.add (k * 7)) = some (.int .i64 f) ∧ w.cell? ⟨(adm.add (k * 7)).block, (adm.add (k * 7)).off + 1, none⟩ = some (.int .i64 e) ∧ w.cell? ⟨(adm.add (k * 7)).block, (adm.add (k * 7)).off + 2, none⟩ = some (.int .u8 dk) ∧ w.cell? ⟨(adm.add (k * 7)).block, (adm.add (k * 7)).off + 3, none⟩ = some (.bool ag) ∧ w.cell? ⟨(adm.add (k * 7)).block, (adm.add (k * 7)).off + 4, none⟩ = some (.string nm) ∧ w.cell? ⟨(adm.add (k * 7)).block, (adm.add (k * 7)).off + 5, none⟩ = some (.slice AC ct.length cC) ∧ w.cell? ⟨(adm.add (k * 7)).block, (adm.add (k * 7)).off + 6, none⟩ = some (.int .i64 dh)) ∧ w.cell? (adu.add (i * 3)) = some (.int .i64 uf) ∧ w.cell? ⟨(adu.add (i * 3)).block, (adu.add (i * 3)).off + 2, none⟩ = some (.string un)) mixD ?_)
        rw [← hX2]; clear hX2; refine zah 0 rfl HS0.out (fun _ h => qp) ?_
        simp only [Act.put, zai]; refine zah 1 rfl HS0.out (fun _ h => qp) ?_
        simp only [Act.put, zai]; refine zah 2 rfl HS0.out (fun _ h => qp) ?_
        simp only [Act.put, zai]; refine zah 3 rfl HS0.out (fun _ h => qp) ?_
        simp only [Act.put, zai]; refine zah 4 rfl HS0.out (fun _ h => qp) ?_
        simp only [Act.put, zai]; refine zah 5 rfl HS0.out (fun _ h => qp) ?_
        simp only [Act.put, zai]; refine zah 6 rfl HS0.out (fun _ h => qp) ?_
        simp only [Act.put, zai]; refine zah 7 rfl HS0.out (fun _ h => qp) ?_
        simp only [Act.put, zai]; refine zah 8 rfl HS0.out (fun _ h => qp) ?_
        simp only [Act.put, zai]; refine zah 9 rfl HS0.out (fun _ h => qp) ?_
        simp only [Act.put, zai]; refine zah 10 rfl HS0.out (fun _ h => qp) ?_
        simp only [Act.put, zai]; refine zah 11 rfl HS0.out (fun _ h => qp) ?_
        simp only [Act.put, zai]; refine zah 12 rfl HS0.out (fun _ h => qp) ?_
        simp only [Act.put, zai]; refine zah 13 rfl HS0.out (fun _ h => qp) ?_
        simp only [Act.put, zai]; refine zah 14 rfl HS0.out (fun _ h => qp) ?_
        simp only [Act.put, zai]; refine zah 15 rfl HS0.out (fun _ h => qp) ?_
        simp only [Act.put, zai]; refine zah 16 rfl HS0.out (fun _ h => qp) ?_
        simp only [Act.put, zai]; refine zah 17 rfl HS0.out (fun _ h => qp) ?_
        simp only [Act.put, zai]; refine zah 18 rfl HS0.out (fun _ h => qp) ?_
        simp only [Act.put, zai]; refine zah 19 rfl HS0.out (fun _ h => qp) ?_
        simp only [Act.put, zai]; refine zah 20 rfl HS0.out (fun _ h => qp) ?_
        simp only [Act.put, zai]; refine zah 21 rfl HS0.out (fun _ h => qp) ?_
        simp only [Act.put, zai]; have hcl := Kd.zbk (Kd.zbx HRC.out HN2.out.low); have hcall := count_calls f e dk ag nm ct dh uf AC cC X2 hcl.2.2 HCT.out; rw [← HCF.out] at hcall; refine zaI (i := 22) rfl qb (fun K hK => ?_)
        go_simp
        refine hcall.mono ?_
        rintro e_ w5 ⟨rfl, hb5⟩
        have HB5 := J hb5; have HS5 := J (HSX.out w5 (HN2.out.below hb5).low); clear hcall hcl hb5; refine hK.out _ _ (fun _ => HS5.out) (fun _ => ?_)
        clear hK K; try simp only [Act.put, zai]
        cases rb with
        | false =>
         refine zah 23 rfl HS5.out (fun _ h => qp) ?_
         simp only [Act.put, zai]; refine za3 qb (NoPanic.normal ?_) _
         go_wp2
         go_roundg (m.length - (k + 1))
         case measure => have := HKK.out; omega
         case rel => exact ⟨k + 1, by rw [HLN2.out]; simp, qk, q9, ⟨rfl⟩, ⟨zak (zak HBK.out HB2'.out) HB5.out⟩⟩
        | true =>
         refine zah 23 rfl HS5.out (fun _ h => qp) ?_
         simp only [Act.put, zai]; refine za3 qb (NoPanic.normal ?_) _
         go_wp2
         go_roundg (m.length - (k + 1))
         case measure => have := HKK.out; omega
         case rel => exact ⟨k + 1, by rw [HLN2.out]; simp, qk, q9, ⟨rfl⟩, ⟨zak (zak HBK.out HB2'.out) HB5.out⟩⟩
       ·have e1 : (nm.toList == un.toList) = false := beq_eq_false_iff_ne.mpr (fun h => n1 (ba_inj h))
        have HLN2 := J (show lastD dl un uf (k + 1) = ld by rw [HLD.out, if_neg (fun h => n1 h.1)])
        clear n1; go_upto_region 16 with (fail)
        go_quiet (fail)
        have HBQ := J (show Below wr.heap.size wr (wr.drewN nq) from ⟨rfl, rfl, rfl, Nat.le_refl _, fun _ _ => rfl⟩)
        go_wp2
        go_roundg (m.length - (k + 1))
        case measure => have := HKK.out; omega
        case rel => exact ⟨k + 1, by rw [HLN2.out], qk, q9, ⟨rfl⟩, ⟨zak HBK.out HBQ.out⟩⟩
      ·have hke : k = m.length := by omega
       obtain ⟨ld, hld⟩ : ∃ ld, ld = lastD dl un uf k := ⟨_, rfl⟩; have HOU := J (show outU dl (uf, ue, un) = ⟨⟨uf, ue⟩, ld⟩ by rw [hld, hke, HML.out]; rfl)
       obtain ⟨A0, c0, e0⟩ := Kd.za4 HNK.out.rb; obtain ⟨n0, hn0⟩ : ∃ n0, n0 = ((us.take i).map (outU dl)).length := ⟨_, rfl⟩; rw [← hn0] at e0; subst e0; rw [← hld]; clear hke hld hn0; go_upto_region 18 with (fail)
       obtain ⟨X2, hX2⟩ : ∃ X2 : World, X2 = wr.drew := ⟨_, rfl⟩; have HB2' := J (show Below wr.heap.size wr X2 by rw [hX2]; exact (Below.refl _ _).drew)
       have HN2 := J (HNK.out.below HB2'.out); have HSX := J (fun (w : World) (hw : Below w3.heap.size w3 w) (hc : w.heap[b8]? = some (.cells #[v0, .slice A0 n0 c0] 47 (0, 0))) => (show (w.cell? ⟨b8, 1, none⟩ = some (.slice A0 n0 c0) ∧ b8 < w.heap.size) ∧ w.cell? (adu.add (i * 3)) = some (.int .i64 uf) ∧ w.cell? ⟨(adu.add (i * 3)).block, (adu.add (i * 3)).off + 1, none⟩ = some (.int .i64 ue) from by
        obtain ⟨ad3, e3, k0, k1, _⟩ := use_at (HRU.out w hw) i _ HUI.out; obtain rfl := Option.some.inj e3; have h4 := zaf hc 1; simp at h4; exact ⟨⟨h4, zaN hc⟩, k0, k1⟩))
       obtain ⟨g, cap, w5, hrun, hl5, hc5, hn5⟩ := names_b HN2.out HB8L.out HN0.out ⟨⟨uf, ue⟩, ld⟩ rfl; have HL5 := J hl5; have HC5 := J hc5; have HN5 := J hn5; have HS0 := J (HSX.out X2 HN2.out.low HN2.out.cell); have HS7 := J (HSX.out (X2.alloc (.cells #[.int .i64 uf, .int .i64 ue, .int .i64 ld] 95)) (HN2.out.below (zad (Below.refl _ _) _)).low (HN2.out.below (zad (Below.refl _ _) _)).cell); have HS8 := J (HSX.out w5 hl5 hc5); clear hl5 hc5 hn5; refine wp_region_noPanic (zba [0, 1, 2, 3, 4, 5, 6, 7, 8, 9, 10, 11] (fun w => (w.cell? ⟨b8, 1, none⟩ = some (.slice A0 n0 c0) ∧ b8 < w.heap.size) ∧ w.cell? (adu.add (i * 3)) = some (.int .i64 uf) ∧ w.cell? ⟨(adu.add (i * 3)).block, (adu.add (i * 3)).off + 1, none⟩ = some (.int .i64 ue)) mixD ?_)
       rw [← hX2]; clear hX2; refine zah 0 rfl HS0.out (fun _ h => qT) ?_
       simp only [Act.put, zai]; refine zah 1 rfl HS0.out (fun _ h => qT) ?_
       simp only [Act.put, zai]; refine zah 2 rfl HS0.out (fun _ h => qT) ?_
       simp only [Act.put, zai]; refine zah 3 rfl HS0.out (fun _ h => qT) ?_
       simp only [Act.put, zai]; refine zah 4 rfl HS0.out (fun _ h => qT) ?_
       simp only [Act.put, zai]; refine zah 5 rfl HS0.out (fun _ h => qT) ?_
       simp only [Act.put, zai]; refine zah 6 rfl HS0.out (fun _ h => qT) ?_
       simp only [Act.put, zai]; refine zah 7 rfl HS0.out (fun _ h => qT) ?_
       simp only [Act.put, zai]; refine zah 8 rfl HS0.out (fun _ h => qT) ?_
       simp only [Act.put, zai]; refine zaI (i := 9) rfl qb (fun K hK => ?_)
       go_simp
       refine hK.out _ _ (fun _ => HS7.out) (fun _ => ?_)
       clear hK K; try simp only [Act.put, zai]
       refine zaI (i := 10) rfl qb (fun K hK => ?_)
       refine wpO_app (by rfl) _ _ _ rfl hrun ?_
       clear hrun; refine hK.out _ _ (fun _ => HS8.out) (fun _ => ?_)
       clear hK K; try simp only [Act.put, zai]
       refine zah 11 rfl HS8.out (fun _ h => qT) ?_
       simp only [Act.put, zai]; have r1 := zaf HC5.out 1; have g1 := zab HC5.out 1; have lb := zaN HC5.out; simp at r1; refine zaI (i := 12) rfl qb (fun K hK => ?_)
       go_simp
       refine hK.out _ _ (fun h => Bool.noConfusion (show false = true from h)) (fun _ => ?_)
       clear hK K; try simp only [Act.put, zai]
       refine za3 qb (NoPanic.normal ?_) _
       clear r1 g1 lb; go_wp2_with fail
       go_roundg (us.length - (i + 1))
       case measure => have := HKQ2.out; omega
       case rel => exact ⟨i + 1, qk, q9, ⟨rfl⟩, _, ⟨by rw [HNX.out, HOU.out]; exact HN5.out⟩⟩
    ·have hie : i = us.length := by omega
     subst hie; have HNE := J (show NmI w3 wr b8 v0 vb (dl.map outD) (us.map (outU dl)) by have h := HNI.out; rwa [List.take_length] at h)
     have hc4 := J (show wr.heap[W.heap.size + 1]? = some (.cells #[.slice none 0 0, .slice none 0 0] 47 (0, 0)) from zaG HC43.out HNE.out.low)
     obtain ⟨Av, cv, ev⟩ := Kd.za4 HNE.out.rd; obtain ⟨Ab, cb, eb⟩ := Kd.za4 HNE.out.rb; obtain ⟨nv, hnv⟩ : ∃ nv, nv = (dl.map outD).length := ⟨_, rfl⟩; obtain ⟨nb, hnb⟩ : ∃ nb, nb = (us.map (outU dl)).length := ⟨_, rfl⟩; rw [← hnv] at ev; rw [← hnb] at eb; subst ev; subst eb; have r0 := zaf HNE.out.cell 0; have r1 := zaf HNE.out.cell 1; have l8 := zaN HNE.out.cell; have q0 := zaf hc4.out 0; have q1 := zaf hc4.out 1; have g0 := zab hc4.out 0; have g1 := zab hc4.out 1; have l4 := zaN hc4.out; simp at r0 r1 q0 q1; clear hnv hnb HNI; go_wp2
     have hz := zbe (zbe hc4.out 0 (.slice Av nv cv)) 1 (.slice Ab nb cb); simp at hz; refine bodyPost_ret (zbO rfl _ _ (W.heap.size + 1) 47 _ (0, 0) _ rfl hz Try.underlying47 rfl qb) rfl ?_
     have hb : W.heap.size ≤ W.heap.size + 1 := Nat.le_succ _; have hW3 : Below W.heap.size W w3 := HBW2.out.trans (HF3.out.low.mono HBW2.out.size); have hWr : Below W.heap.size W wr := zbL hW3 (HNE.out.low.mono (Nat.le_refl _)) hW3.size; refine ⟨_, _, qS, (hWr.setCell hb _).setCell hb _, ?_, ?_⟩
     ·rw [HOF.out]
      have h1 := Kd.R_set (Kd.R_set HNE.out.rd hc4.out qe 0 (.slice Av nv cv)) (by simpa using zbe hc4.out 0 (.slice Av nv cv)) qe 1 (.slice Ab nb cb)
      exact Kd.zbl (Kd.zbz h1 hW3.size) (fun _ hq => Nat.le_trans hW3.size hq)
     ·rw [HOF.out]
      have h1 := Kd.R_set (Kd.R_set HNE.out.rb hc4.out qe 0 (.slice Av nv cv)) (by simpa using zbe hc4.out 0 (.slice Av nv cv)) qe 1 (.slice Ab nb cb)
      exact Kd.zbl (Kd.zbz h1 hW3.size) (fun _ hq => Nat.le_trans hW3.size hq)
abbrev Dp := S62
abbrev Bp := S95
abbrev Lay := List ByteArray × (ByteArray → Int)
structure St where
 ds : List Dp
 bs : List Bp
 kn : ByteArray → List Int
 ls : List Lay
 sh : List Dp
def cutS (s : ByteArray) (a b : Int) : ByteArray := s.extract a.toNat b.toNat
def nmP (s : ByteArray) (d : Dp) : ByteArray := cutS s d.f0.f0 d.f0.f1
def nmK (s : ByteArray) (ds : List Dp) (k : Int) : ByteArray := match ds[k.toNat]? with | some d => nmP s d | none => default
def upd {α : Type} (h : ByteArray → α) (u : ByteArray) (x : α) : ByteArray → α := fun v => if v = u then x else h v
def zbB (kn : ByteArray → List Int) (u : ByteArray) : Int := (kn u).getLast?.getD (-1)
def addName (ls : List Lay) (u : ByteArray) : List Lay := match ls with | [] => [] | t :: r => (t.1 ++ [u], t.2) :: r
def zbT (s : ByteArray) (x : St) (k : Int) : St := { x with kn := upd x.kn (nmK s x.ds k) (x.kn (nmK s x.ds k) ++ [max k (zbB x.kn (nmK s x.ds k))]), ls := addName x.ls (nmK s x.ds k) }
def countP (s : ByteArray) (x : St) (l : List Int) : St := l.foldl (zbT s) x
def openP (x : St) : St := { x with ls := ([], fun _ => 0) :: x.ls }
def pop1 (kn : ByteArray → List Int) (u : ByteArray) : ByteArray → List Int := upd kn u (kn u).dropLast
def zbM (x : St) : St := match x.ls with | [] => x | t :: r => { x with kn := t.1.foldl pop1 x.kn, ls := r }
def zbS (s : ByteArray) (stop : Int) (kn : ByteArray → List Int) : Nat → List Dp → List Dp
 | _, [] => []
 | n, d :: r => if zbB kn (nmP s d) = (n : Int) ∧ d.f0.f1 ≤ stop then d :: zbS s stop kn (n + 1) r else zbS s stop kn (n + 1) r
def lookP (s : ByteArray) (stop a b : Int) (x : St) : St := if stop < a ∨ b ≤ stop then x else { x with sh := zbS s stop x.kn 0 x.ds }
def declD (s : ByteArray) (a b kind : Int) (h : ByteArray → Int) (x : St) : St := { x with ds := x.ds ++ [⟨⟨a, b⟩, kind, decide (0 < h (cutS s a b))⟩] }
def bump (h : ByteArray → Int) (u : ByteArray) : ByteArray → Int := upd h u (h u + 1)
def topH (ls : List Lay) : ByteArray → Int := match ls with | [] => fun _ => 0 | t :: _ => t.2
def setH (ls : List Lay) (h : ByteArray → Int) : List Lay := match ls with | [] => [] | t :: r => (t.1, h) :: r
def declT (s : ByteArray) (a b kind : Int) (x : St) : St := { declD s a b kind (topH x.ls) x with ls := setH x.ls (bump (topH x.ls) (cutS s a b)) }
structure LS where
 st : St
 ag : ByteArray → Int
 mine : List Int
 given : List Int
 par : List Int
def stepW (s : ByteArray) (stop pk tk a b : Int) (x : LS) (K : St → St × List Int) : LS :=
 if tk = 6 ∧ pk = 53 then { x with st := lookP s stop a b (declT s a b 1 x.st), mine := x.mine ++ [(x.st.ds.length : Int)] }
 else if tk = 6 ∧ pk = 54 then { x with st := countP s (declT s a b 2 (lookP s stop a b x.st)) [((lookP s stop a b x.st).ds.length : Int)] }
 else if tk = 6 ∧ pk = 55 then { x with st := declD s a b 3 x.ag (lookP s stop a b x.st), ag := bump x.ag (cutS s a b), par := x.par ++ [((lookP s stop a b x.st).ds.length : Int)] }
 else if tk = 6 ∧ pk = 66 then { x with st := { lookP s stop a b x.st with bs := (lookP s stop a b x.st).bs ++ [⟨⟨a, b⟩, zbB (lookP s stop a b x.st).kn (cutS s a b)⟩] } }
 else if tk < 50 then { x with st := lookP s stop a b x.st }
 else if tk = 52 ∧ pk = 54 then { x with st := zbM (K (countP s (openP x.st) x.given)).1 }
 else if tk = 52 then { x with st := zbM (K (openP x.st)).1 }
 else if tk = 55 ∧ pk = 54 then { x with st := (K x.st).1, given := x.given ++ (K x.st).2 }
 else { x with st := (K x.st).1 }
mutual
def kidsT (s : ByteArray) (stop : Int) : AT → Int → St → St × List Int
 | .node k w wd A c kids, f, x =>
  (if k = 53 then countP s (loopL s stop k kids f ⟨x, fun _ => 0, [], [], []⟩).st (loopL s stop k kids f ⟨x, fun _ => 0, [], [], []⟩).mine else (loopL s stop k kids f ⟨x, fun _ => 0, [], [], []⟩).st, (loopL s stop k kids f ⟨x, fun _ => 0, [], [], []⟩).par)
def loopL (s : ByteArray) (stop : Int) : Int → List AT → Int → LS → LS
 | _, [], _, x => x
 | pk, T :: r, f, x => loopL s stop pk r (f + T.wd) (stepW s stop pk T.k f (f + T.wd) x (fun y => kidsT s stop T f y))
end
theorem loopL_take (s : ByteArray) (stop pk : Int) : ∀ (l : List AT) (i : Nat) (T : AT) (f : Int) (x : LS), l[i]? = some T → loopL s stop pk (l.take (i + 1)) f x = stepW s stop pk T.k (f + wdL (l.take i)) (f + wdL (l.take i) + T.wd) (loopL s stop pk (l.take i) f x) (fun y => kidsT s stop T (f + wdL (l.take i)) y)
 | [], i, T, f, x, h => by simp at h
 | y :: r, 0, T, f, x, h => by
  simp at h; subst h; simp only [List.take_succ_cons, List.take_zero, loopL, wdL, Int.add_zero]
 | y :: r, i + 1, T, f, x, h => by
  have := loopL_take s stop pk r i T (f + y.wd) (stepW s stop pk y.k f (f + y.wd) x (fun z => kidsT s stop y f z)) (by simpa using h)
  simp only [List.take_succ_cons, loopL, wdL, this, Int.add_assoc]
def cntU (u : ByteArray) : List ByteArray → Nat
 | [] => 0
 | v :: r => (if v = u then 1 else 0) + cntU u r
theorem cntU_append (u : ByteArray) : ∀ (l m : List ByteArray), cntU u (l ++ m) = cntU u l + cntU u m
 | [], m => by simp [cntU]
 | v :: r, m => by simp only [List.cons_append, cntU, cntU_append u r m]; omega
def cntLs (u : ByteArray) : List Lay → Nat
 | [] => 0
 | t :: r => cntU u t.1 + cntLs u r
structure Ok (s : ByteArray) (n : Nat) (x : St) : Prop where
 dl : x.ds.length ≤ n
 bl : x.bs.length ≤ n
 sl : x.sh.length ≤ n
 ll : x.ls.length ≤ n
 kl : ∀ u, (x.kn u).length ≤ n
 nl : ∀ t ∈ x.ls, t.1.length ≤ n
 hl : ∀ t ∈ x.ls, ∀ u, 0 ≤ t.2 u ∧ t.2 u ≤ n
 kin : ∀ u, ∀ k ∈ x.kn u, 0 ≤ k ∧ k < x.ds.length
 sp : ∀ d ∈ x.ds, 0 ≤ d.f0.f0 ∧ d.f0.f0 ≤ d.f0.f1 ∧ d.f0.f1 ≤ s.size
 nm : ∀ u, ∀ k ∈ x.kn u, nmK s x.ds k = u
 cov : ∀ u, cntLs u x.ls = (x.kn u).length
theorem means_mem {kn : ByteArray → List Int} {u : ByteArray} (h : kn u ≠ []) : zbB kn u ∈ kn u := by
 unfold zbB
 rw [List.getLast?_eq_some_getLast h]; exact List.getLast_mem h
theorem means_nil {kn : ByteArray → List Int} {u : ByteArray} (h : kn u = []) : zbB kn u = -1 := by unfold zbB; rw [h]; rfl
theorem Ok.means {s : ByteArray} {n : Nat} {x : St} (h : Ok s n x) (u : ByteArray) : -1 ≤ zbB x.kn u ∧ zbB x.kn u < x.ds.length := by
 by_cases e : x.kn u = []
 ·rw [means_nil e]; omega
 ·have := h.kin u _ (means_mem e)
  omega
theorem Ok.mono {s : ByteArray} {n m : Nat} {x : St} (h : Ok s n x) (hm : n ≤ m) : Ok s m x :=
 ⟨Nat.le_trans h.dl hm, Nat.le_trans h.bl hm, Nat.le_trans h.sl hm, Nat.le_trans h.ll hm, fun u => Nat.le_trans (h.kl u) hm, fun t ht => Nat.le_trans (h.nl t ht) hm, fun t ht u => by have := h.hl t ht u; omega, h.kin, h.sp, h.nm, h.cov⟩
theorem nmK_some {s : ByteArray} {ds : List Dp} {k : Int} {d : Dp} (h : ds[k.toNat]? = some d) : nmK s ds k = nmP s d := by unfold nmK; rw [h]
theorem nmK_append {s : ByteArray} {ds l : List Dp} {k : Int} (h0 : 0 ≤ k) (h : k < ds.length) : nmK s (ds ++ l) k = nmK s ds k := by
 unfold nmK
 rw [List.getElem?_append_left q9]
theorem Ok.open_ {s : ByteArray} {n : Nat} {x : St} (h : Ok s n x) : Ok s (n + 1) (openP x) := by
 refine ⟨Nat.le_succ_of_le h.dl, Nat.le_succ_of_le h.bl, Nat.le_succ_of_le h.sl, by have := h.ll; simp only [openP, List.length_cons]; omega, fun u => Nat.le_succ_of_le (h.kl u), fun t ht => ?_, fun t ht u => ?_, h.kin, h.sp, h.nm, fun u => ?_⟩
 ·rcases List.mem_cons.1 ht with rfl | ht
  ·exact Nat.zero_le _
  ·exact Nat.le_succ_of_le (h.nl t ht)
 ·rcases List.mem_cons.1 ht with rfl | ht
  ·exact ⟨Int.le_refl _, qm⟩
  ·have := h.hl t ht u; omega
 ·have := h.cov u; simp only [openP, cntLs, cntU]; omega
theorem Ok.zbT {s : ByteArray} {n : Nat} {x : St} (h : Ok s n x) {k : Int} (h0 : 0 ≤ k) (hk : k < x.ds.length) (hls : x.ls ≠ []) : Ok s (n + 1) (zbT s x k) := by
 obtain ⟨t, r, e⟩ : ∃ t r, x.ls = t :: r := by cases e : x.ls with | nil => exact absurd e hls | cons t r => exact ⟨t, r, rfl⟩
 have hmx : ∀ v ∈ [max k (zbB x.kn (nmK s x.ds k))], 0 ≤ v ∧ v < x.ds.length ∧ nmK s x.ds v = nmK s x.ds k := by
  intro v hv
  obtain rfl := List.mem_singleton.1 hv; by_cases hc : zbB x.kn (nmK s x.ds k) ≤ k
  ·rw [Int.max_eq_left hc]; exact ⟨h0, hk, rfl⟩
  ·rw [Int.max_eq_right q9]
   have hne : x.kn (nmK s x.ds k) ≠ [] := fun e => by rw [means_nil e] at hc; omega
   have hm := means_mem hne; exact ⟨(h.kin _ _ hm).1, (h.kin _ _ hm).2, h.nm _ _ hm⟩
 have hkn : ∀ u v, v ∈ upd x.kn (nmK s x.ds k) (x.kn (nmK s x.ds k) ++ [max k (zbB x.kn (nmK s x.ds k))]) u → v ∈ x.kn u ∨ (u = nmK s x.ds k ∧ v ∈ [max k (zbB x.kn (nmK s x.ds k))]) := by
  intro u v hv
  unfold upd at hv
  by_cases e : u = nmK s x.ds k
  ·rw [if_pos e] at hv
   rcases List.mem_append.1 hv with hv | hv
   ·exact .inl (by rw [e]; exact hv)
   ·exact .inr ⟨e, hv⟩
  ·rw [if_neg e] at hv; exact .inl hv
 refine ⟨Nat.le_succ_of_le h.dl, Nat.le_succ_of_le h.bl, Nat.le_succ_of_le h.sl, ?_, fun u => ?_, fun a ha => ?_, fun a ha u => ?_, fun u v hv => ?_, h.sp, fun u v hv => ?_, fun u => ?_⟩
 ·have := h.ll; simp only [H.zbT, addName, e, List.length_cons] at *; omega
 ·have := h.kl u
  simp only [H.zbT, upd]
  split
  ·rename_i eu; rw [← eu]; simp only [List.length_append, List.length_singleton]; omega
  ·omega
 ·simp only [H.zbT, addName, e, List.mem_cons] at ha
  rcases ha with rfl | ha
  ·have := h.nl t Qa; simp only [List.length_append, List.length_singleton]; omega
  ·exact Nat.le_succ_of_le (h.nl a Qg)
 ·simp only [H.zbT, addName, e, List.mem_cons] at ha
  rcases ha with rfl | ha
  ·have := h.hl t Qa u; simp only; omega
  ·have := h.hl a Qg u; omega
 ·rcases hkn u v hv with hv | ⟨_, hv⟩
  ·exact h.kin u v hv
  ·exact ⟨(hmx v hv).1, (hmx v hv).2.1⟩
 ·rcases hkn u v hv with hv | ⟨eu, hv⟩
  ·exact h.nm u v hv
  ·exact (hmx v hv).2.2.trans eu.symm
 ·have := h.cov u
  rw [e] at this; simp only [cntLs] at this; simp only [H.zbT, addName, e, cntLs, cntU_append, cntU, upd]; by_cases eu : u = nmK s x.ds k
  ·subst eu
   rw [if_pos rfl, if_pos rfl]; simp only [List.length_append, List.length_singleton]; omega
  ·rw [if_neg eu, if_neg (fun h => eu h.symm)]
   omega
theorem addName_ne {ls : List Lay} {u : ByteArray} (h : ls ≠ []) : addName ls u ≠ [] := by cases ls with | nil => exact absurd rfl h | cons t r => simp [addName]
theorem countP_ds (s : ByteArray) : ∀ (l : List Int) (x : St), (countP s x l).ds = x.ds ∧ (countP s x l).bs = x.bs ∧ (countP s x l).sh = x.sh
 | [], x => ⟨rfl, rfl, rfl⟩
 | k :: r, x => by
  have := countP_ds s r (zbT s x k); exact this
theorem countP_ls (s : ByteArray) : ∀ (l : List Int) (x : St), x.ls ≠ [] → (countP s x l).ls ≠ [] ∧ (countP s x l).ls.tail = x.ls.tail ∧ topH (countP s x l).ls = topH x.ls
 | [], x, h => ⟨h, rfl, rfl⟩
 | k :: r, x, h => by
  obtain ⟨h1, h2, h3⟩ := countP_ls s r (zbT s x k) (addName_ne h); refine ⟨h1, h2.trans ?_, h3.trans ?_⟩
  ·cases e : x.ls with | nil => exact absurd e h | cons t r => simp [H.zbT, addName, e]
  ·cases e : x.ls with | nil => exact absurd e h | cons t r => simp [H.zbT, addName, e, topH]
theorem Ok.countP {s : ByteArray} : ∀ (l : List Int) {n : Nat} {x : St}, Ok s n x → (∀ k ∈ l, 0 ≤ k ∧ k < x.ds.length) → x.ls ≠ [] → Ok s (n + l.length) (countP s x l)
 | [], n, x, h, _, _ => h
 | k :: r, n, x, h, hk, hls => by
  have h1 := Ok.countP r (h.zbT (hk k List.mem_cons_self).1 (hk k List.mem_cons_self).2 hls) (fun v hv => hk v (List.mem_cons_of_mem _ hv)) (addName_ne hls)
  rw [show n + (k :: r).length = n + 1 + r.length by simp only [List.length_cons]; omega]
  exact h1
theorem popAll : ∀ (l : List ByteArray) (kn : ByteArray → List Int) (u : ByteArray), (l.foldl pop1 kn) u = (kn u).take ((kn u).length - cntU u l)
 | [], kn, u => by simp [cntU]
 | v :: r, kn, u => by
  rw [List.foldl_cons, popAll r (pop1 kn v) u]; unfold pop1 upd
  by_cases e : u = v
  ·subst e
   rw [if_pos rfl, List.length_dropLast, List.dropLast_eq_take, List.take_take]; simp only [cntU, if_pos]
   congr 1
   omega
  ·rw [if_neg e]
   simp only [cntU, if_neg (fun h => e h.symm : ¬ v = u), Nat.zero_add]
theorem Ok.close {s : ByteArray} {n : Nat} {x : St} (h : Ok s n x) : Ok s n (zbM x) := by
 unfold zbM
 cases e : x.ls with
 | nil => exact h
 | cons t r =>
  simp only; have hsub : ∀ u v, v ∈ (t.1.foldl pop1 x.kn) u → v ∈ x.kn u := fun u v hv => by rw [popAll] at hv; exact List.mem_of_mem_take hv
  refine ⟨h.dl, h.bl, h.sl, ?_, fun u => ?_, fun a ha => h.nl a Qg, fun a ha => h.hl a Qg, fun u v hv => h.kin u v (hsub u v hv), h.sp, fun u v hv => h.nm u v (hsub u v hv), fun u => ?_⟩
  ·have := h.ll; rw [e] at this; simp only [List.length_cons] at this; simp only; omega
  ·have := h.kl u
   show ((t.1.foldl pop1 x.kn) u).length ≤ n
   rw [popAll, List.length_take]; omega
  ·have := h.cov u
   rw [e] at this; simp only [cntLs] at this; show cntLs u r = ((t.1.foldl pop1 x.kn) u).length
   rw [popAll, List.length_take]; omega
theorem shownN_len (s : ByteArray) (stop : Int) (kn : ByteArray → List Int) : ∀ (n : Nat) (l : List Dp), (zbS s stop kn n l).length ≤ l.length
 | _, [] => Nat.le_refl _
 | n, d :: r => by
  have := shownN_len s stop kn (n + 1) r; simp only [zbS]
  split
  ·simp only [List.length_cons]; omega
  ·simp only [List.length_cons]; omega
theorem lookP_facts (s : ByteArray) (stop a b : Int) (x : St) : (lookP s stop a b x).ds = x.ds ∧ (lookP s stop a b x).bs = x.bs ∧ (lookP s stop a b x).kn = x.kn ∧ (lookP s stop a b x).ls = x.ls := by
 unfold lookP
 split <;> exact ⟨rfl, rfl, rfl, rfl⟩
theorem Ok.look {s : ByteArray} {n : Nat} {x : St} (h : Ok s n x) (stop a b : Int) : Ok s n (lookP s stop a b x) := by
 obtain ⟨e1, e2, e3, e4⟩ := lookP_facts s stop a b x; refine ⟨by rw [e1]; exact h.dl, by rw [e2]; exact h.bl, ?_, by rw [e4]; exact h.ll, by rw [e3]; exact h.kl, by rw [e4]; exact h.nl, by rw [e4]; exact h.hl, by rw [e3, e1]; exact h.kin, by rw [e1]; exact h.sp, by rw [e3, e1]; exact h.nm, by rw [e3, e4]; exact h.cov⟩
 unfold lookP
 split
 ·exact h.sl
 ·exact Nat.le_trans (shownN_len s stop x.kn 0 x.ds) h.dl
theorem Ok.declD {s : ByteArray} {n : Nat} {x : St} (h : Ok s n x) {a b : Int} (kind : Int) (hm : ByteArray → Int) (ha : 0 ≤ a) (hab : a ≤ b) (hb : b ≤ s.size) : Ok s (n + 1) (declD s a b kind hm x) := by
 have hl : (H.declD s a b kind hm x).ds.length = x.ds.length + 1 := by simp [H.declD]
 refine ⟨by rw [hl]; have := h.dl; omega, Nat.le_succ_of_le h.bl, Nat.le_succ_of_le h.sl, Nat.le_succ_of_le h.ll, fun u => Nat.le_succ_of_le (h.kl u), fun t ht => Nat.le_succ_of_le (h.nl t ht), fun t ht u => by have := h.hl t ht u; omega, fun u k hk => by have := h.kin u k hk; rw [hl]; omega, fun d hd => ?_, fun u k hk => ?_, h.cov⟩
 ·rcases List.mem_append.1 hd with hd | hd
  ·exact h.sp d hd
  ·obtain rfl := List.mem_singleton.1 hd
   exact ⟨ha, hab, hb⟩
 ·rw [show nmK s (H.declD s a b kind hm x).ds k = nmK s x.ds k from nmK_append (h.kin u k hk).1 (h.kin u k hk).2]
  exact h.nm u k hk
theorem Ok.setH {s : ByteArray} {n : Nat} {x : St} (h : Ok s n x) (g : ByteArray → Int) (hg : ∀ u, 0 ≤ g u ∧ g u ≤ n) : Ok s n { x with ls := setH x.ls g } := by
 cases e : x.ls with
 | nil => exact ⟨h.dl, h.bl, h.sl, Nat.zero_le _, h.kl, fun a ha => (by cases ha), fun a ha => (by cases ha), h.kin, h.sp, h.nm, fun u => by have := h.cov u; rw [e] at this; exact this⟩
 | cons t r =>
  have hmap : ∀ u, cntLs u (H.setH x.ls g) = cntLs u x.ls := fun u => by rw [e]; rfl
  rw [← e]; refine ⟨h.dl, h.bl, h.sl, by have := h.ll; rw [e] at *; exact this, h.kl, fun a ha => ?_, fun a ha u => ?_, h.kin, h.sp, h.nm, fun u => (hmap u).trans (h.cov u)⟩
  ·rw [show ({ x with ls := H.setH x.ls g } : St).ls = (t.1, g) :: r by rw [e]; rfl] at ha
   rcases List.mem_cons.1 ha with rfl | ha
   ·exact h.nl t Qa
   ·exact h.nl a Qg
  ·rw [show ({ x with ls := H.setH x.ls g } : St).ls = (t.1, g) :: r by rw [e]; rfl] at ha
   rcases List.mem_cons.1 ha with rfl | ha
   ·exact hg u
   ·exact h.hl a Qg u
theorem bump_bound {g : ByteArray → Int} {n : Nat} (h : ∀ u, 0 ≤ g u ∧ g u ≤ n) (v u : ByteArray) : 0 ≤ bump g v u ∧ bump g v u ≤ (n + 1 : Nat) := by
 unfold bump upd
 have h1 := h u; have h2 := h v
 split <;> omega
theorem Ok.topH {s : ByteArray} {n : Nat} {x : St} (h : Ok s n x) (u : ByteArray) : 0 ≤ topH x.ls u ∧ topH x.ls u ≤ n := by
 cases e : x.ls with
 | nil => simp [H.topH]
 | cons t r => exact h.hl t Qa u
theorem Ok.declT {s : ByteArray} {n : Nat} {x : St} (h : Ok s n x) {a b : Int} (kind : Int) (ha : 0 ≤ a) (hab : a ≤ b) (hb : b ≤ s.size) : Ok s (n + 1) (declT s a b kind x) :=
 (h.declD kind (H.topH x.ls) ha hab hb).setH _ (fun u => bump_bound (fun v => h.topH v) _ u)
theorem Ok.bind {s : ByteArray} {n : Nat} {x : St} (h : Ok s n x) (b : Bp) : Ok s (n + 1) { x with bs := x.bs ++ [b] } :=
 ⟨Nat.le_succ_of_le h.dl, by have := h.bl; simp only [List.length_append, List.length_singleton]; omega, Nat.le_succ_of_le h.sl, Nat.le_succ_of_le h.ll, fun u => Nat.le_succ_of_le (h.kl u), fun t ht => Nat.le_succ_of_le (h.nl t ht), fun t ht u => by have := h.hl t ht u; omega, h.kin, h.sp, h.nm, h.cov⟩
structure Gro (x y : St) : Prop where
 dl : x.ds.length ≤ y.ds.length
 ln : y.ls.length = x.ls.length
 tl : y.ls.tail = x.ls.tail
theorem Gro.refl (x : St) : Gro x x := ⟨Nat.le_refl _, rfl, rfl⟩
theorem Gro.trans {x y z : St} (h : Gro x y) (k : Gro y z) : Gro x z := ⟨Nat.le_trans h.dl k.dl, k.ln.trans h.ln, k.tl.trans h.tl⟩
theorem gro_count (s : ByteArray) (l : List Int) (x : St) : Gro x (countP s x l) := by
 induction l generalizing x with
 | nil => exact Gro.refl x
 | cons k r ih =>
  refine Gro.trans ?_ (ih (zbT s x k))
  refine ⟨Nat.le_refl _, ?_, ?_⟩
  ·simp only [zbT]; cases x.ls with | nil => rfl | cons t r => rfl
  ·simp only [zbT]; cases x.ls with | nil => rfl | cons t r => rfl
theorem gro_look (s : ByteArray) (stop a b : Int) (x : St) : Gro x (lookP s stop a b x) := by
 obtain ⟨e1, _, _, e4⟩ := lookP_facts s stop a b x; exact ⟨by rw [e1]; exact Nat.le_refl _, by rw [e4], by rw [e4]⟩
theorem gro_declD (s : ByteArray) (a b kind : Int) (h : ByteArray → Int) (x : St) : Gro x (declD s a b kind h x) := ⟨by simp [declD], rfl, rfl⟩
theorem gro_declT (s : ByteArray) (a b kind : Int) (x : St) : Gro x (declT s a b kind x) := by
 refine ⟨by simp [declT, declD], ?_, ?_⟩
 ·simp only [declT]; cases x.ls with | nil => rfl | cons t r => rfl
 ·simp only [declT]; cases x.ls with | nil => rfl | cons t r => rfl
theorem gro_block {x y : St} (l : List Int) (s : ByteArray) (h : Gro (countP s (openP x) l) y) : Gro x (zbM y) := by
 have h1 := gro_count s l (openP x); have h2 := h1.trans h; have hl := h2.ln; have ht := h2.tl; have hd := h2.dl; simp only [openP, List.length_cons, List.tail_cons] at hl ht hd; cases e : y.ls with
 | nil => rw [e] at hl; cases hl
 | cons t r =>
  rw [e] at ht hl; simp only [List.tail_cons] at ht; unfold zbM
  rw [e]; exact ⟨hd, by rw [ht], by rw [ht]⟩
def Rng (a b : Nat) (l : List Int) : Prop := ∀ k ∈ l, (a : Int) ≤ k ∧ k < b
structure GroL (c : Nat) (x y : LS) : Prop where
 st : Gro x.st y.st
 mine : ∃ l, y.mine = x.mine ++ l ∧ Rng x.st.ds.length y.st.ds.length l ∧ l.length ≤ c
 given : ∃ l, y.given = x.given ++ l ∧ Rng x.st.ds.length y.st.ds.length l ∧ l.length ≤ c
 par : ∃ l, y.par = x.par ++ l ∧ Rng x.st.ds.length y.st.ds.length l ∧ l.length ≤ c
theorem Rng.nil (a b : Nat) : Rng a b [] := fun k h => by cases h
theorem Rng.app {a b c : Nat} {l m : List Int} (h : Rng a b l) (k : Rng b c m) (hab : a ≤ b) (hbc : b ≤ c) : Rng a c (l ++ m) := fun z hz => by
 rcases List.mem_append.1 hz with hz | hz
 ·have := h z hz; omega
 ·have := k z hz; omega
theorem GroL.refl (x : LS) : GroL 0 x x := ⟨Gro.refl _, ⟨[], qf, Rng.nil _ _, Nat.le_refl _⟩, ⟨[], qf, Rng.nil _ _, Nat.le_refl _⟩, ⟨[], qf, Rng.nil _ _, Nat.le_refl _⟩⟩
theorem GroL.trans {c d : Nat} {x y z : LS} (h : GroL c x y) (k : GroL d y z) : GroL (c + d) x z := by
 refine ⟨h.st.trans k.st, ?_, ?_, ?_⟩
 ·obtain ⟨l, e, r, n⟩ := h.mine
  obtain ⟨l', e', r', n'⟩ := k.mine; exact ⟨l ++ l', by rw [e', e, List.append_assoc], r.app r' h.st.dl k.st.dl, by rw [List.length_append]; omega⟩
 ·obtain ⟨l, e, r, n⟩ := h.given
  obtain ⟨l', e', r', n'⟩ := k.given; exact ⟨l ++ l', by rw [e', e, List.append_assoc], r.app r' h.st.dl k.st.dl, by rw [List.length_append]; omega⟩
 ·obtain ⟨l, e, r, n⟩ := h.par
  obtain ⟨l', e', r', n'⟩ := k.par; exact ⟨l ++ l', by rw [e', e, List.append_assoc], r.app r' h.st.dl k.st.dl, by rw [List.length_append]; omega⟩
def KidsOk (c : Nat) (K : St → St × List Int) : Prop := ∀ x : St, x.ls ≠ [] → Gro x (K x).1 ∧ Rng x.ds.length (K x).1.ds.length (K x).2 ∧ (K x).2.length ≤ c
theorem ls_ne {x y : St} (h : Gro x y) (hx : x.ls ≠ []) : y.ls ≠ [] := fun e => by
 have := h.ln; rw [e] at this; exact hx (List.eq_nil_of_length_eq_zero this.symm)
theorem stepW_gro (s : ByteArray) (stop pk tk a b : Int) (x : LS) (K : St → St × List Int) (c : Nat) (hc : 1 ≤ c) (hK : KidsOk c K) (hx : x.st.ls ≠ []) : GroL c x (stepW s stop pk tk a b x K) := by
 have nl : ∀ u v : Nat, ∃ l : List Int, x.mine = x.mine ++ l ∧ Rng u v l ∧ l.length ≤ c := fun u v => ⟨[], qf, Rng.nil _ _, Nat.zero_le _⟩
 have ng : ∀ u v : Nat, ∃ l : List Int, x.given = x.given ++ l ∧ Rng u v l ∧ l.length ≤ c := fun u v => ⟨[], qf, Rng.nil _ _, Nat.zero_le _⟩
 have np : ∀ u v : Nat, ∃ l : List Int, x.par = x.par ++ l ∧ Rng u v l ∧ l.length ≤ c := fun u v => ⟨[], qf, Rng.nil _ _, Nat.zero_le _⟩
 have gl := gro_look s stop a b x.st; have el := (lookP_facts s stop a b x.st).1; have one : ∀ {u v : Nat} {k : Int}, (u : Int) ≤ k → k < v → Rng u v [k] := fun h1 h2 z hz => by obtain rfl := List.mem_singleton.1 hz; exact ⟨h1, h2⟩
 unfold stepW
 split
 ·have g1 := (gro_declT s a b 1 x.st).trans (gro_look s stop a b (declT s a b 1 x.st))
  have e1 := (lookP_facts s stop a b (declT s a b 1 x.st)).1; refine ⟨g1, ⟨_, rfl, one (Int.le_refl _) ?_, hc⟩, ng _ _, np _ _⟩
  show (x.st.ds.length : Int) < ((lookP s stop a b (declT s a b 1 x.st)).ds.length : Int)
  rw [e1]; simp only [declT, declD, List.length_append, List.length_singleton]; omega
 split
 ·exact ⟨gl.trans ((gro_declT s a b 2 _).trans (gro_count s _ _)), nl _ _, ng _ _, np _ _⟩
 split
 ·refine ⟨gl.trans (gro_declD s a b 3 _ _), nl _ _, ng _ _, ⟨_, rfl, one ?_ ?_, hc⟩⟩
  ·simp only [el]; omega
  ·simp only [declD, List.length_append, List.length_singleton]; omega
 split
 ·exact ⟨⟨gl.dl, gl.ln, gl.tl⟩, nl _ _, ng _ _, np _ _⟩
 split
 ·exact ⟨gl, nl _ _, ng _ _, np _ _⟩
 split
 ·have h1 := ls_ne (gro_count s x.given (openP x.st)) (by simp [openP])
  exact ⟨gro_block x.given s (hK _ h1).1, nl _ _, ng _ _, np _ _⟩
 split
 ·exact ⟨gro_block [] s (hK (openP x.st) (by simp [openP])).1, nl _ _, ng _ _, np _ _⟩
 split
 ·obtain ⟨h1, h2, h3⟩ := hK x.st hx
  exact ⟨h1, nl _ _, ⟨_, rfl, h2, h3⟩, np _ _⟩
 ·exact ⟨(hK x.st hx).1, nl _ _, ng _ _, np _ _⟩
mutual
theorem kidsT_ok (s : ByteArray) (stop : Int) : ∀ (T : AT) (f : Int), KidsOk (nT T) (fun x => kidsT s stop T f x)
 | .node k w wd A c kids, f, x, hx => by
  have h := loopL_gro s stop kids k f ⟨x, fun _ => 0, [], [], []⟩ hx
  obtain ⟨l, e, r, n⟩ := h.par; simp only [List.nil_append] at e; simp only [kidsT, nT]
  split
  ·refine ⟨h.st.trans (gro_count s _ _), ?_, by rw [e]; omega⟩
   rw [e, (countP_ds s _ _).1]; exact r
  ·exact ⟨h.st, by rw [e]; exact r, by rw [e]; omega⟩
theorem loopL_gro (s : ByteArray) (stop : Int) : ∀ (l : List AT) (pk : Int) (f : Int) (x : LS), x.st.ls ≠ [] → GroL (nL l) x (loopL s stop pk l f x)
 | [], pk, f, x, _ => by simp only [loopL, nL]; exact GroL.refl x
 | T :: r, pk, f, x, hx => by
  have h1 := stepW_gro s stop pk T.k f (f + T.wd) x (fun y => kidsT s stop T f y) (nT T) (by cases T; simp only [nT]; omega) (kidsT_ok s stop T f) hx
  have h2 := loopL_gro s stop r pk (f + T.wd) _ (ls_ne h1.st hx); simp only [loopL, nL]; exact h1.trans h2
end
def rmx (m : Int) : List Int → List Int
 | [] => []
 | k :: r => max k m :: rmx (max k m) r
def mxl (m : Int) : List Int → Int
 | [] => m
 | k :: r => mxl (max k m) r
theorem rmx_append : ∀ (l c : List Int) (m : Int), rmx m (l ++ c) = rmx m l ++ rmx (mxl m l) c
 | [], c, m => rfl
 | k :: r, c, m => by simp only [List.cons_append, rmx, mxl, rmx_append r c]
theorem rmx_len : ∀ (l : List Int) (m : Int), (rmx m l).length = l.length
 | [], _ => rfl
 | k :: r, m => by simp only [rmx, List.length_cons, rmx_len r]
theorem rmx_last : ∀ (l : List Int) (m : Int), (rmx m l).getLast?.getD m = mxl m l
 | [], _ => rfl
 | [k], m => rfl
 | k :: j :: r, m => by
  have h := rmx_last (j :: r) (max k m); simp only [rmx, mxl, List.getLast?_cons_cons] at h ⊢; rw [← h]; cases e : (max j (max k m) :: rmx (max j (max k m)) r).getLast? with
  | none => simp at e
  | some v => rfl
theorem mxl_spec : ∀ (l : List Int) (m : Int), (mxl m l = m ∨ mxl m l ∈ l) ∧ m ≤ mxl m l ∧ ∀ k ∈ l, k ≤ mxl m l
 | [], m => ⟨.inl rfl, Int.le_refl _, fun k h => by cases h⟩
 | k :: r, m => by
  obtain ⟨h1, h2, h3⟩ := mxl_spec r (max k m); simp only [mxl]; refine ⟨?_, q9, fun z hz => ?_⟩
  ·rcases h1 with h1 | h1
   ·rw [h1]
    by_cases h : m ≤ k
    ·rw [Int.max_eq_left h]; exact .inr List.mem_cons_self
    ·rw [Int.max_eq_right q9]; exact .inl rfl
   ·exact .inr (List.mem_cons_of_mem _ h1)
  ·rcases List.mem_cons.1 hz with rfl | hz
   ·omega
   ·exact h3 z hz
def flat : List (List Int) → List Int
 | [] => []
 | c :: r => flat r ++ c
def fil (s : ByteArray) (ds : List Dp) (u : ByteArray) (l : List Int) : List Int := l.filter fun k => decide (nmK s ds k = u)
structure Rel (s : ByteArray) (x : St) (cs : List (List Int)) : Prop where
 nm : x.ls.map (·.1) = cs.map (·.map (nmK s x.ds))
 kn : ∀ u, x.kn u = rmx (-1) (fil s x.ds u (flat cs))
 rng : ∀ k ∈ flat cs, 0 ≤ k ∧ k < x.ds.length
theorem Rel.open_ {s : ByteArray} {x : St} {cs : List (List Int)} (h : Rel s x cs) : Rel s (openP x) ([] :: cs) :=
 ⟨by simp only [openP, List.map_cons, h.nm, List.map_nil], fun u => by simp only [openP, flat, List.append_nil]; exact h.kn u, fun k hk => by simp only [flat, List.append_nil] at hk; exact h.rng k hk⟩
theorem Rel.zbT {s : ByteArray} {x : St} {c : List Int} {r : List (List Int)} (h : Rel s x (c :: r)) {k : Int} (h0 : 0 ≤ k) (hk : k < x.ds.length) : Rel s (zbT s x k) ((c ++ [k]) :: r) := by
 refine ⟨?_, fun u => ?_, fun z hz => ?_⟩
 ·have hn := h.nm
  simp only [H.zbT]; cases e : x.ls with
  | nil => rw [e] at hn; simp at hn
  | cons t l =>
   rw [e] at hn; simp only [List.map_cons, List.cons.injEq] at hn; simp only [addName, List.map_cons, List.map_append, List.map_nil, hn.1, hn.2]
 ·have e : flat ((c ++ [k]) :: r) = flat (c :: r) ++ [k] := by simp only [flat, List.append_assoc]
  have hu := h.kn u; rw [e]; simp only [H.zbT, upd]; unfold fil
  rw [List.filter_append]; by_cases eu : u = nmK s x.ds k
  ·rw [if_pos eu]
   have e2 : [k].filter (fun k => decide (nmK s x.ds k = u)) = [k] := by rw [List.filter_cons_of_pos (by rw [eu]; simp), List.filter_nil]
   rw [e2, rmx_append, ← eu, hu]
   congr 1
   simp only [rmx]; unfold zbB
   rw [hu, rmx_last]
   rfl
  ·rw [if_neg eu]
   have e2 : [k].filter (fun k => decide (nmK s x.ds k = u)) = [] := by rw [List.filter_cons_of_neg (by simpa using fun h => eu h.symm), List.filter_nil]
   rw [e2, List.append_nil]; exact hu
 ·have e : flat ((c ++ [k]) :: r) = flat (c :: r) ++ [k] := by simp only [flat, List.append_assoc]
  rw [e] at hz; rcases List.mem_append.1 hz with hz | hz
  ·exact h.rng z hz
  ·obtain rfl := List.mem_singleton.1 hz; exact ⟨h0, hk⟩
theorem Rel.countP {s : ByteArray} {r : List (List Int)} : ∀ (l : List Int) {x : St} {c : List Int}, Rel s x (c :: r) → (∀ k ∈ l, 0 ≤ k ∧ k < x.ds.length) → Rel s (countP s x l) ((c ++ l) :: r)
 | [], x, c, h, _ => by rw [List.append_nil]; exact h
 | k :: m, x, c, h, hl => by
  have h1 := Rel.countP m (h.zbT (hl k List.mem_cons_self).1 (hl k List.mem_cons_self).2) (fun z hz => hl z (List.mem_cons_of_mem _ hz))
  rw [List.append_assoc] at h1; exact h1
theorem fil_app {s : ByteArray} {ds l : List Dp} {u : ByteArray} : ∀ {m : List Int}, (∀ k ∈ m, 0 ≤ k ∧ k < ds.length) → fil s (ds ++ l) u m = fil s ds u m := fun {m} h => by
 unfold fil
 exact List.filter_congr (fun k hk => by rw [nmK_append (h k hk).1 (h k hk).2])
theorem mem_flat {cs : List (List Int)} {c : List Int} (h : c ∈ cs) {k : Int} (hk : k ∈ c) : k ∈ flat cs := by
 induction cs with
 | nil => cases h
 | cons d r ih =>
  simp only [flat, List.mem_append]; rcases List.mem_cons.1 h with rfl | h
  ·exact .inr hk
  ·exact .inl (ih h)
theorem Rel.declD {s : ByteArray} {x : St} {cs : List (List Int)} (h : Rel s x cs) (a b kind : Int) (g : ByteArray → Int) : Rel s (declD s a b kind g x) cs := by
 refine ⟨?_, fun u => ?_, fun k hk => ?_⟩
 ·rw [show (H.declD s a b kind g x).ls = x.ls from rfl, h.nm]
  refine List.map_congr_left (fun c hc => List.map_congr_left (fun k hk => ?_))
  have := h.rng k (mem_flat hc hk); exact (nmK_append this.1 this.2).symm
 ·rw [show (H.declD s a b kind g x).kn = x.kn from rfl, h.kn u]
  simp only [H.declD]; rw [fil_app h.rng]
 ·have := h.rng k hk
  simp only [H.declD, List.length_append, List.length_singleton]; omega
theorem Rel.setLs {s : ByteArray} {x : St} {cs : List (List Int)} (h : Rel s x cs) (g : ByteArray → Int) : Rel s { x with ls := setH x.ls g } cs := by
 refine ⟨?_, h.kn, h.rng⟩
 rw [← h.nm]; simp only [setH]; cases x.ls with
 | nil => rfl
 | cons t l => rfl
theorem Rel.declT {s : ByteArray} {x : St} {cs : List (List Int)} (h : Rel s x cs) (a b kind : Int) : Rel s (declT s a b kind x) cs := (h.declD a b kind (topH x.ls)).setLs _
theorem Rel.look {s : ByteArray} {x : St} {cs : List (List Int)} (h : Rel s x cs) (stop a b : Int) : Rel s (lookP s stop a b x) cs := by
 obtain ⟨e1, _, e3, e4⟩ := lookP_facts s stop a b x; exact ⟨by rw [e4, e1]; exact h.nm, fun u => by rw [e3, e1]; exact h.kn u, by rw [e1]; exact h.rng⟩
theorem cnt_fil (s : ByteArray) (ds : List Dp) (u : ByteArray) : ∀ c : List Int, cntU u (c.map (nmK s ds)) = (fil s ds u c).length
 | [] => rfl
 | k :: r => by
  have := cnt_fil s ds u r; unfold fil at *
  simp only [List.map_cons, cntU, List.filter_cons, this]; by_cases e : nmK s ds k = u
  ·simp only [e, if_true, decide_true, List.length_cons]; omega
  ·simp only [e, if_false, decide_false, Nat.zero_add, Bool.false_eq_true]
theorem Rel.close {s : ByteArray} {x : St} {c : List Int} {r : List (List Int)} (h : Rel s x (c :: r)) : Rel s (zbM x) r := by
 have hn := h.nm; unfold zbM
 cases e : x.ls with
 | nil => rw [e] at hn; simp at hn
 | cons t l =>
  rw [e] at hn; simp only [List.map_cons, List.cons.injEq] at hn; refine ⟨hn.2, fun u => ?_, fun k hk => h.rng k (by simp only [flat, List.mem_append]; exact .inl hk)⟩
  show (t.1.foldl pop1 x.kn) u = _
  rw [popAll, h.kn u, hn.1, cnt_fil, rmx_len]; have e1 : fil s x.ds u (flat (c :: r)) = fil s x.ds u (flat r) ++ fil s x.ds u c := by unfold fil; simp only [flat, List.filter_append]
  rw [e1, rmx_append, List.length_append, show (fil s x.ds u (flat r)).length + (fil s x.ds u c).length - (fil s x.ds u c).length = (rmx (-1) (fil s x.ds u (flat r))).length by rw [rmx_len]; omega, List.take_left]
theorem Rel.means {s : ByteArray} {x : St} {cs : List (List Int)} (h : Rel s x cs) (u : ByteArray) : (zbB x.kn u = -1 ∧ ∀ k ∈ flat cs, nmK s x.ds k ≠ u) ∨ (0 ≤ zbB x.kn u ∧ zbB x.kn u ∈ flat cs ∧ nmK s x.ds (zbB x.kn u) = u ∧ ∀ k ∈ flat cs, nmK s x.ds k = u → k ≤ zbB x.kn u) := by
 have e : zbB x.kn u = mxl (-1) (fil s x.ds u (flat cs)) := by unfold zbB; rw [h.kn u, rmx_last]
 rw [e]; obtain ⟨h1, h2, h3⟩ := mxl_spec (fil s x.ds u (flat cs)) (-1); have hmem : ∀ k, k ∈ fil s x.ds u (flat cs) ↔ k ∈ flat cs ∧ nmK s x.ds k = u := fun k => by unfold fil; rw [List.mem_filter]; simp
 rcases h1 with h1 | h1
 ·left
  refine ⟨h1, fun k hk hu => ?_⟩
  have h4 := h3 k ((hmem k).2 ⟨hk, hu⟩); have h5 := h.rng k hk; omega
 ·right
  obtain ⟨h4, h5⟩ := (hmem _).1 h1; exact ⟨(h.rng _ h4).1, h4, h5, fun k hk hu => h3 k ((hmem k).2 ⟨hk, hu⟩)⟩
section
variable {L : List Sn} {s : ByteArray} {n : Int}
def dsP (L : List Sn) (s : ByteArray) (p : Nat) : List Dc := (findS L s p).1
def usP (L : List Sn) (s : ByteArray) (p : Nat) : List Us := (findS L s p).2
theorem step_decl {p u : Nat} {x y : Sn} (hx : L[p]? = some x) (h6 : x.1.k = 6) (hu : x.2.2 = u) (hy : L[u]? = some y) (hk : y.1.k = 53 ∨ y.1.k = 54 ∨ y.1.k = 55) : dsP L s (p + 1) = dsP L s p ++ [mkD L s (dsP L s p) x y u] ∧ usP L s (p + 1) = usP L s p := by
 unfold dsP usP
 rw [findS_step hx]; unfold stepD
 rw [if_pos ⟨h6, q9⟩, hu, Int.toNat_natCast, hy]
 simp only; rw [if_neg q9, if_pos hk]
 exact ⟨rfl, rfl⟩
theorem step_use {p u : Nat} {x y : Sn} (hx : L[p]? = some x) (h6 : x.1.k = 6) (hu : x.2.2 = u) (hy : L[u]? = some y) (hk : y.1.k = 66) : dsP L s (p + 1) = dsP L s p ∧ usP L s (p + 1) = usP L s p ++ [(x.2.1, x.2.1 + x.1.wd, nmS s x)] := by
 unfold dsP usP
 rw [findS_step hx]; unfold stepD
 rw [if_pos ⟨h6, q9⟩, hu, Int.toNat_natCast, hy]
 simp only; rw [if_pos hk]; exact ⟨rfl, rfl⟩
theorem step_no {p : Nat} {x : Sn} (hx : L[p]? = some x) (h : x.1.k ≠ 6 ∨ ∀ (u : Nat) y, x.2.2 = u → L[u]? = some y → y.1.k ≠ 66 ∧ y.1.k ≠ 53 ∧ y.1.k ≠ 54 ∧ y.1.k ≠ 55) : dsP L s (p + 1) = dsP L s p ∧ usP L s (p + 1) = usP L s p := by
 unfold dsP usP
 rw [findS_step hx]; have e : stepD L s x (findS L s p) = findS L s p := by
  unfold stepD
  split
  ·rename_i hc
   split
   ·rfl
   ·rename_i y hy
    rcases h with h | h
    ·exact absurd hc.1 h
    ·have := h x.2.2.toNat y (by rw [Int.toNat_of_nonneg hc.2]) hy
     rw [if_neg this.1, if_neg q9]
  ·rfl
 rw [e]; exact ⟨rfl, rfl⟩
theorem ds_step {p : Nat} {x : Sn} (hx : L[p]? = some x) : dsP L s (p + 1) = dsP L s p ∨ ∃ u y, x.1.k = 6 ∧ x.2.2 = ((u : Nat) : Int) ∧ L[u]? = some y ∧ (y.1.k = 53 ∨ y.1.k = 54 ∨ y.1.k = 55) ∧ dsP L s (p + 1) = dsP L s p ++ [mkD L s (dsP L s p) x y u] := by
 by_cases h : x.1.k = 6 ∧ 0 ≤ x.2.2
 ·obtain ⟨u, hu⟩ : ∃ u : Nat, x.2.2 = u := ⟨x.2.2.toNat, q9⟩
  cases hy : L[u]? with
  | none => exact .inl (step_no hx (.inr fun v y hv hy' => by
    have : v = u := by omega
    subst this; rw [hy] at hy'; cases hy')).1
  | some y =>
   by_cases hk : y.1.k = 53 ∨ y.1.k = 54 ∨ y.1.k = 55
   ·exact .inr ⟨u, y, h.1, hu, hy, hk, (step_decl hx h.1 hu hy hk).1⟩
   ·by_cases h66 : y.1.k = 66
    ·exact .inl (step_use hx h.1 hu hy h66).1
    ·refine .inl (step_no hx (.inr fun v z hv hz => ?_)).1
     have : v = u := by omega
     subst this; rw [hy] at hz; obtain rfl := Option.some.inj hz; omega
 ·refine .inl (step_no hx ?_).1
  by_cases h6 : x.1.k = 6
  ·exact .inr fun u y hu _ => by omega
  ·exact .inl h6
theorem ds_prefix (L : List Sn) (s : ByteArray) (p : Nat) : ∀ d, p + d ≤ L.length → ∃ l, dsP L s (p + d) = dsP L s p ++ l
 | 0, _ => ⟨[], qf⟩
 | d + 1, h => by
  obtain ⟨l, e⟩ := ds_prefix L s p d q9
  obtain ⟨x, hx⟩ : ∃ x, L[p + d]? = some x := ⟨_, List.getElem?_eq_getElem q9⟩
  rcases ds_step (s := s) hx with h1 | ⟨u, y, _, _, _, _, h1⟩
  ·exact ⟨l, by rw [← Nat.add_assoc, h1, e]⟩
  ·exact ⟨l ++ [mkD L s (dsP L s (p + d)) x y u], by rw [← Nat.add_assoc, h1, e, List.append_assoc]⟩
theorem ds_pre {p q : Nat} (h : p ≤ q) (hq : q ≤ L.length) : ∃ l, dsP L s q = dsP L s p ++ l := by
 obtain ⟨d, rfl⟩ := Nat.exists_eq_add_of_le h; exact ds_prefix L s p d hq
theorem ds_at {p q k : Nat} (h : p ≤ q) (hq : q ≤ L.length) (hk : k < (dsP L s p).length) : (dsP L s q)[k]? = (dsP L s p)[k]? := by
 obtain ⟨l, e⟩ := ds_pre (s := s) h hq; rw [e, List.getElem?_append_left hk]
theorem ds_mono {p q : Nat} (h : p ≤ q) (hq : q ≤ L.length) : (dsP L s p).length ≤ (dsP L s q).length := by
 obtain ⟨l, e⟩ := ds_pre (s := s) h hq; rw [e, List.length_append]; omega
theorem ds_home (hok : SnOk L n) : ∀ p, p ≤ L.length → ∀ d ∈ dsP L s p, d.home < p ∧ d.name = cutS s d.f d.t
 | 0, _, d, hd => by simp [dsP, findS] at hd
 | p + 1, hp, d, hd => by
  have ih := ds_home hok p q9
  obtain ⟨x, hx⟩ : ∃ x, L[p]? = some x := ⟨_, List.getElem?_eq_getElem q9⟩
  rcases ds_step (s := s) hx with h1 | ⟨u, y, h6, hu, hy, hk, h1⟩
  ·rw [h1] at hd
   have := ih d hd; exact ⟨q9, this.2⟩
  ·rw [h1] at hd
   rcases List.mem_append.1 hd with hd | hd
   ·have := ih d hd
    exact ⟨q9, this.2⟩
   ·obtain rfl := List.mem_singleton.1 hd
    refine ⟨?_, rfl⟩
    have hup := (hok.up p x hx).2.2; simp only [mkD]
    split
    ·omega
    ·have hyu := hok.up u y hy
     have hu0 : u ≠ 0 := fun e => by subst e; have := hok.root y hy; omega
     have h2 := hyu.2.1 q9
     obtain ⟨v, hv⟩ : ∃ v : Nat, y.2.2 = v := ⟨y.2.2.toNat, q9⟩
     have h3 := homeK_mem hok (v + 1) v (Nat.lt_succ_self _) (by have := (List.getElem?_eq_some_iff.1 hy).1; omega)
     rw [hv]; omega
theorem ds_later (hso : L.Pairwise (fun a b => a.2.1 ≤ b.2.1)) (hw : ∀ x ∈ L, x.1.k = 6 → 1 ≤ x.1.wd) {p : Nat} {x : Sn} (hx : L[p]? = some x) : ∀ d, p + d ≤ L.length → ∀ c ∈ (dsP L s (p + d)).drop (dsP L s p).length, x.2.1 < c.t
 | 0, _, c, hc => by simp at hc
 | d + 1, h, c, hc => by
  have ih := ds_later hso hw hx d q9
  obtain ⟨y, hy⟩ : ∃ y, L[p + d]? = some y := ⟨_, List.getElem?_eq_getElem q9⟩
  have hm := ds_mono (s := s) (L := L) (Nat.le_add_right p d) q9
  rcases ds_step (s := s) hy with h1 | ⟨u, z, h6, _, _, _, h1⟩
  ·rw [← Nat.add_assoc, h1] at hc
   exact ih c hc
  ·rw [← Nat.add_assoc, h1, List.drop_append_of_le_length hm] at hc
   rcases List.mem_append.1 hc with hc | hc
   ·exact ih c hc
   ·obtain rfl := List.mem_singleton.1 hc
    have h2 := hw y (List.mem_of_getElem? hy) h6; have h3 : x.2.1 ≤ y.2.1 := by
     by_cases e : d = 0
     ·subst e
      rw [Nat.add_zero, hx] at hy; rw [Option.some.inj hy]; exact Int.le_refl _
     ·obtain ⟨i1, e1⟩ := List.getElem?_eq_some_iff.1 hx
      obtain ⟨i2, e2⟩ := List.getElem?_eq_some_iff.1 hy; have := List.pairwise_iff_getElem.1 hso p (p + d) i1 i2 q9
      rw [e1, e2] at this; exact this
    simp only [mkD]; omega
def cK (L : List Sn) (s : ByteArray) (k : Nat) (q : Int) : Bool := match (dsP L s L.length)[k]? with | some d => countB d q | none => false
theorem cK_at {p k : Nat} {q : Int} {d : Dc} (hp : p ≤ L.length) (h : (dsP L s p)[k]? = some d) : cK L s k q = countB d q := by
 have hk : k < (dsP L s p).length := (List.getElem?_eq_some_iff.1 h).1; unfold cK
 rw [ds_at hp (Nat.le_refl _) hk, h]
theorem countB_t {d : Dc} {q : Int} (h : countB d q = true) : d.t ≤ q := by
 unfold countB at h
 obtain ⟨c, _, hc⟩ := List.any_eq_true.1 h; simp only [Bool.and_eq_true, decide_eq_true_eq] at hc; exact hc.1.1
theorem lastD_spec (ds : List Dc) (nm : ByteArray) (q : Int) : ∀ m, m ≤ ds.length → (lastD ds nm q m = -1 ∧ ∀ k d, k < m → ds[k]? = some d → ¬ (d.name = nm ∧ countB d q = true)) ∨ ∃ k d, lastD ds nm q m = ((k : Nat) : Int) ∧ k < m ∧ ds[k]? = some d ∧ (d.name = nm ∧ countB d q = true) ∧ ∀ j e, k < j → j < m → ds[j]? = some e → ¬ (e.name = nm ∧ countB e q = true)
 | 0, _ => .inl ⟨rfl, fun k d h => absurd h (Nat.not_lt_zero _)⟩
 | m + 1, h => by
  obtain ⟨d, hd⟩ : ∃ d, ds[m]? = some d := ⟨_, List.getElem?_eq_getElem q9⟩
  simp only [lastD, hd]; by_cases hg : d.name = nm ∧ countB d q = true
  ·rw [if_pos hg]
   exact .inr ⟨m, d, rfl, Nat.lt_succ_self _, hd, hg, fun j e h1 h2 => q9⟩
  ·rw [if_neg hg]
   rcases lastD_spec ds nm q m q9 with ⟨h1, h2⟩ | ⟨k, e, h1, h2, h3, h4, h5⟩
   ·refine .inl ⟨h1, fun k e hk he => ?_⟩
    by_cases hkm : k = m
    ·subst hkm
     rw [hd] at he; rw [← Option.some.inj he]; exact hg
    ·exact h2 k e q9 he
   ·refine .inr ⟨k, e, h1, q9, h3, h4, fun j e' hj1 hj2 he' => ?_⟩
    by_cases hkm : j = m
    ·subst hkm
     rw [hd] at he'; rw [← Option.some.inj he']; exact hg
    ·exact h5 j e' hj1 q9 he'
def visR (all : List Dc) (q : Int) : Nat → List Dc → List Dp
 | _, [] => []
 | m, d :: r => if countB d q = true ∧ ((all.drop (m + 1)).any fun e => decide (e.name = d.name) && countB e q) = false then outD d :: visR all q (m + 1) r else visR all q (m + 1) r
def visP (L : List Sn) (s : ByteArray) (q : Int) : List Dp := visR (dsP L s L.length) q 0 (dsP L s L.length)
theorem nmK_out {ds : List Dc} (hn : ∀ d ∈ ds, d.name = cutS s d.f d.t) {k : Nat} {d : Dc} (h : ds[k]? = some d) : nmK s (ds.map outD) (k : Int) = d.name := by
 unfold nmK
 rw [Int.toNat_natCast, List.getElem?_map, h]; exact (hn d (List.mem_of_getElem? h)).symm
structure At (L : List Sn) (s : ByteArray) (p : Nat) (q : Int) (cs : List (List Int)) : Prop where
 old : ∀ k : Nat, k < (dsP L s p).length → ((k : Int) ∈ flat cs ↔ cK L s k q = true)
 new : ∀ k : Nat, (dsP L s p).length ≤ k → cK L s k q = false
theorem means_last {x : St} {cs : List (List Int)} {p : Nat} {q : Int} (hp : p ≤ L.length) (hn : ∀ d ∈ dsP L s L.length, d.name = cutS s d.f d.t) (hr : Rel s x cs) (hd : x.ds = (dsP L s p).map outD) (ha : At L s p q cs) (u : ByteArray) : zbB x.kn u = lastD (dsP L s L.length) u q (dsP L s L.length).length := by
 have hm := ds_mono (s := s) hp (Nat.le_refl L.length); have hat : ∀ k d, k < (dsP L s p).length → (dsP L s L.length)[k]? = some d → (dsP L s p)[k]? = some d := fun k d hk h => by rw [← ds_at hp (Nat.le_refl _) hk]; exact h
 have hnp : ∀ d ∈ dsP L s p, d.name = cutS s d.f d.t := fun d hdm => by
  obtain ⟨l, e⟩ := ds_pre (s := s) hp (Nat.le_refl _); exact hn d (by rw [e]; exact List.mem_append_left _ hdm)
 have hlen : x.ds.length = (dsP L s p).length := by rw [hd, List.length_map]
 have hcn : ∀ k d, k < (dsP L s p).length → (dsP L s L.length)[k]? = some d → ((k : Int) ∈ flat cs ↔ countB d q = true) ∧ nmK s x.ds (k : Int) = d.name := fun k d hk h => by
  have h1 := hat k d hk h; refine ⟨by rw [ha.old k hk, cK_at hp h1], ?_⟩
  rw [hd]; exact nmK_out hnp h1
 have hgood : ∀ k d, (dsP L s L.length)[k]? = some d → (d.name = u ∧ countB d q = true) → k < (dsP L s p).length := fun k d h hg => by
  by_cases hk : k < (dsP L s p).length
  ·exact hk
  ·have := ha.new k q9
   rw [cK_at (Nat.le_refl _) h] at this; rw [this] at hg; cases hg.2
 rcases hr.means u with ⟨h1, h2⟩ | ⟨h1, h2, h3, h4⟩
 ·rcases lastD_spec (dsP L s L.length) u q _ (Nat.le_refl _) with ⟨g1, _⟩ | ⟨k, d, g1, g2, g3, g4, _⟩
  ·rw [h1, g1]
  ·have hk := hgood k d g3 g4
   obtain ⟨c1, c2⟩ := hcn k d hk g3; exact absurd (c2.trans g4.1) (h2 k (c1.2 g4.2))
 ·obtain ⟨m, hm'⟩ : ∃ m : Nat, zbB x.kn u = m := ⟨(zbB x.kn u).toNat, q9⟩
  rw [hm'] at h2 h3 h4; have hmr := (hr.rng _ h2).2; obtain ⟨d, hdm⟩ : ∃ d, (dsP L s L.length)[m]? = some d := ⟨_, List.getElem?_eq_getElem q9⟩
  obtain ⟨c1, c2⟩ := hcn m d q9 hdm
  have hg : d.name = u ∧ countB d q = true := ⟨c2.symm.trans h3, c1.1 h2⟩; rcases lastD_spec (dsP L s L.length) u q _ (Nat.le_refl _) with ⟨g1, g2⟩ | ⟨k, e, g1, g2, g3, g4, g5⟩
  ·exact absurd hg (g2 m d q9 hdm)
  ·rw [hm', g1]
   have hk := hgood k e g3 g4; obtain ⟨e1, e2⟩ := hcn k e hk g3; have h5 := h4 k (e1.2 g4.2) (e2.trans g4.1); by_cases hkm : k = m
   ·rw [hkm]
   ·exact absurd hg (g5 m d q9 q9 hdm)
theorem shown_vis {x : St} {cs : List (List Int)} {p : Nat} {q : Int} (hp : p ≤ L.length) (hn : ∀ d ∈ dsP L s L.length, d.name = cutS s d.f d.t) (hr : Rel s x cs) (hd : x.ds = (dsP L s p).map outD) (ha : At L s p q cs) : zbS s q x.kn 0 x.ds = visP L s q := by
 obtain ⟨rest, hall⟩ := ds_pre (s := s) hp (Nat.le_refl L.length); have hml := fun u => means_last hp hn hr hd ha u
 obtain ⟨all, hA⟩ : ∃ all, all = dsP L s L.length := ⟨_, rfl⟩; have hrest : ∀ m r, all.drop m = r → (dsP L s p).length ≤ m → visR all q m r = [] := by
  intro m r
  induction r generalizing m with
  | nil => intros; rfl
  | cons e r ih =>
   intro h1 h2
   have he : all[m]? = some e := by rw [← List.head?_drop, h1]; rfl
   have h3 := ha.new m h2; rw [cK_at (Nat.le_refl _) (hA ▸ he)] at h3; simp only [visR]; rw [if_neg (by rw [h3]; simp)]
   exact ih (m + 1) (by rw [← List.drop_drop, h1]; rfl) q9
 have hmain : ∀ (l : List Dc) (m : Nat), (dsP L s p).drop m = l → m ≤ (dsP L s p).length → zbS s q x.kn m (l.map outD) = visR all q m (all.drop m) := by
  intro l
  induction l with
  | nil =>
   intro m h1 h2
   have : (dsP L s p).length ≤ m := by
    have := congrArg List.length h1; rw [List.length_drop] at this; simp at this; omega
   rw [hrest m _ rfl this]
   rfl
  | cons d r ih =>
   intro m h1 h2
   have hm : m < (dsP L s p).length := by
    have := congrArg List.length h1; rw [List.length_drop] at this; simp at this; omega
   have hdm : (dsP L s p)[m]? = some d := by rw [← List.head?_drop, h1]; rfl
   have hdA : all[m]? = some d := by rw [hA, ds_at hp (Nat.le_refl _) hm]; exact hdm
   have hlA : m < all.length := (List.getElem?_eq_some_iff.1 hdA).1; have hdr : all.drop m = d :: all.drop (m + 1) := by
    rw [List.drop_eq_getElem_cons hlA]
    congr 1
    exact (List.getElem?_eq_some_iff.1 hdA).2
   have hnm : nmP s (outD d) = d.name := (hn d (by rw [← hA]; exact List.mem_of_getElem? hdA)).symm
   have hcond : (zbB x.kn (nmP s (outD d)) = (m : Int) ∧ (outD d).f0.f1 ≤ q) ↔ (countB d q = true ∧ ((all.drop (m + 1)).any fun e => decide (e.name = d.name) && countB e q) = false) := by
    rw [hnm, hml d.name, ← hA]; constructor
    ·rintro ⟨h3, _⟩
     rcases lastD_spec all d.name q _ (Nat.le_refl _) with ⟨g1, _⟩ | ⟨k, e, g1, g2, g3, g4, g5⟩
     ·rw [g1] at h3; omega
     ·obtain rfl : k = m := by omega
      rw [hdA] at g3; obtain rfl := Option.some.inj g3; refine ⟨g4.2, ?_⟩
      rw [List.any_eq_false]; intro e he
      obtain ⟨j, hj, hje⟩ := List.mem_drop_iff_getElem.1 he; have := g5 (k + 1 + j) e q9 q9 (by rw [List.getElem?_eq_getElem q9]; congr 1)
      simpa using this
    ·rintro ⟨h3, h4⟩
     refine ⟨?_, countB_t h3⟩
     rcases lastD_spec all d.name q _ (Nat.le_refl _) with ⟨g1, g2⟩ | ⟨k, e, g1, g2, g3, g4, g5⟩
     ·exact absurd ⟨rfl, h3⟩ (g2 m d hlA hdA)
     ·rw [g1]
      by_cases hkm : k = m
      ·rw [hkm]
      ·by_cases hlt : k < m
       ·exact absurd ⟨rfl, h3⟩ (g5 m d hlt hlA hdA)
       ·exfalso
        rw [List.any_eq_false] at h4; have := h4 e (List.mem_drop_iff_getElem.2 ⟨k - (m + 1), q9, by
         obtain ⟨i1, e1⟩ := List.getElem?_eq_some_iff.1 g3; rw [← e1]; congr 1; omega⟩)
        simp [g4.1, g4.2] at this
   have ih' := ih (m + 1) (by rw [← List.drop_drop, h1]; rfl) hm
   rw [hdr, List.map_cons]; simp only [zbS, visR]; by_cases hc : countB d q = true ∧ ((all.drop (m + 1)).any fun e => decide (e.name = d.name) && countB e q) = false
   ·rw [if_pos (hcond.2 hc), if_pos hc, ih']
   ·rw [if_neg (fun h => hc (hcond.1 h)), if_neg hc, ih']
 have h0 := hmain (dsP L s p) 0 rfl (Nat.zero_le _); rw [hd]; unfold visP
 rw [List.drop_zero] at h0; rw [h0, hA]
end
structure Cx (L : List Sn) (n : Int) : Prop where
 ok : SnOk L n
 so : L.Pairwise (fun a b => a.2.1 ≤ b.2.1)
 w6 : ∀ x ∈ L, x.1.k = 6 → 1 ≤ x.1.wd
def blk (L : List Sn) (i q : Int) : Prop := ∃ b ∈ zbH L i, b.f0 ≤ q ∧ q < b.f1
def pblk (L : List Sn) (up q : Int) : Prop := kindS L up = 54 ∧ blk L up q
theorem countB_iff {d : Dc} {q : Int} : countB d q = true ↔ d.t ≤ q ∧ ∃ c ∈ d.counts, c.f0 ≤ q ∧ q < c.f1 := by
 unfold countB
 rw [List.any_eq_true]; constructor
 ·rintro ⟨c, hc, h⟩
  simp only [Bool.and_eq_true, decide_eq_true_eq] at h; exact ⟨h.1.1, c, hc, h.1.2, h.2⟩
 ·rintro ⟨h1, c, hc, h2, h3⟩
  exact ⟨c, hc, by simp only [Bool.and_eq_true, decide_eq_true_eq]; exact ⟨⟨h1, h2⟩, h3⟩⟩
structure Inv (L : List Sn) (s : ByteArray) (stop : Int) (p : Nat) (f : Int) (x : St) (cs : List (List Int)) (Hm : Int) : Prop where
 ds : x.ds = (dsP L s p).map outD
 bs : x.bs = (usP L s p).map (outU (dsP L s L.length))
 rel : Rel s x cs
 sh : x.sh = if 0 ≤ stop ∧ stop < f then visP L s stop else []
 hm : ∀ t r, x.ls = t :: r → ∀ u, 0 ≤ t.2 u ∧ (0 < t.2 u ↔ ∃ d ∈ dsP L s p, d.name = u ∧ d.home = Hm)
section
variable {L : List Sn} {s : ByteArray} {n stop : Int}
theorem Inv.dl {p : Nat} {f : Int} {x : St} {cs : List (List Int)} {Hm : Int} (h : Inv L s stop p f x cs Hm) : x.ds.length = (dsP L s p).length := by rw [h.ds, List.length_map]
theorem all_names (hok : SnOk L n) : ∀ d ∈ dsP L s L.length, d.name = cutS s d.f d.t := fun d hd => (ds_home hok L.length (Nat.le_refl _) d hd).2
theorem Inv.look (hok : SnOk L n) {p : Nat} {f b : Int} {x : St} {cs : List (List Int)} {Hm : Int} (h : Inv L s stop p f x cs Hm) (hp : p ≤ L.length) (hf : 0 ≤ f) (hfb : f ≤ b) (ha : f ≤ stop → stop < b → At L s p stop cs) : Inv L s stop p b (lookP s stop f b x) cs Hm := by
 obtain ⟨e1, e2, e3, e4⟩ := lookP_facts s stop f b x; refine ⟨by rw [e1]; exact h.ds, by rw [e2]; exact h.bs, h.rel.look stop f b, ?_, fun t r ht => h.hm t r (by rw [← e4]; exact ht)⟩
 unfold lookP
 by_cases hc : stop < f ∨ b ≤ stop
 ·rw [if_pos hc, h.sh]
  by_cases h0 : 0 ≤ stop ∧ stop < f
  ·rw [if_pos h0, if_pos ⟨h0.1, q9⟩]
  ·rw [if_neg h0, if_neg q9]
 ·rw [if_neg hc, if_pos ⟨q9, q9⟩]
  exact shown_vis hp (all_names hok) h.rel h.ds (ha q9 q9)
theorem Inv.skip {p p' : Nat} {b : Int} {x : St} {cs : List (List Int)} {Hm : Int} (h : Inv L s stop p b x cs Hm) (h1 : dsP L s p' = dsP L s p) (h2 : usP L s p' = usP L s p) : Inv L s stop p' b x cs Hm :=
 ⟨by rw [h1]; exact h.ds, by rw [h2]; exact h.bs, h.rel, h.sh, fun t r ht u => by rw [h1]; exact h.hm t r ht u⟩
theorem leaf_new {P Q : List Sn} {x : Sn} (cx : Cx L n) (hL : L = P ++ x :: Q) (hQ : ∀ y ∈ Q, x.2.1 + x.1.wd ≤ y.2.1) {q : Int} (hq : q < x.2.1 + x.1.wd) (k : Nat) (hk : (dsP L s P.length).length ≤ k) : cK L s k q = false := by
 have hx : L[P.length]? = some x := by rw [hL]; simp
 have hlen : P.length < L.length := (List.getElem?_eq_some_iff.1 hx).1; have hlate : ∀ d, (dsP L s L.length)[k]? = some d → x.2.1 + x.1.wd ≤ d.t := fun d hd => by
  have hone : (dsP L s (P.length + 1)).length ≤ k → x.2.1 + x.1.wd ≤ d.t := fun h1 => by
   cases Q with
   | nil =>
    have : L.length = P.length + 1 := by rw [hL]; simp
    rw [← this] at h1; have := (List.getElem?_eq_some_iff.1 hd).1; omega
   | cons y Q' =>
    have hy : L[P.length + 1]? = some y := by rw [hL, List.getElem?_append_right q9]; simp
    have hyl : P.length + 1 < L.length := (List.getElem?_eq_some_iff.1 hy).1; have h2 := ds_later (s := s) cx.so cx.w6 hy (L.length - (P.length + 1)) q9 d (by
     rw [show P.length + 1 + (L.length - (P.length + 1)) = L.length by omega]
     obtain ⟨i1, e1⟩ := List.getElem?_eq_some_iff.1 hd; rw [← e1]; exact List.mem_drop_iff_getElem.2 ⟨k - (dsP L s (P.length + 1)).length, q9, by congr 1; omega⟩)
    have := hQ y List.mem_cons_self; omega
  rcases ds_step (s := s) hx with h1 | ⟨u, y, _, _, _, _, h1⟩
  ·exact hone (by rw [h1]; exact hk)
  ·by_cases hk1 : (dsP L s (P.length + 1)).length ≤ k
   ·exact hone hk1
   ·have hkk : k = (dsP L s P.length).length := by rw [h1, List.length_append, List.length_singleton] at hk1; omega
    have h2 : (dsP L s (P.length + 1))[k]? = some d := by rw [← ds_at q9 (Nat.le_refl L.length) q9]; exact hd
    rw [h1, hkk] at h2; simp at h2; rw [← h2]; exact Int.le_refl _
 unfold cK
 cases hd : (dsP L s L.length)[k]? with
 | none => rfl
 | some d =>
  simp only; cases hc : countB d q with
  | false => rfl
  | true =>
   have h1 := countB_t hc; have h2 := hlate d hd; omega
structure Nd where
 me : Nat
 f0 : Int
 wd : Int
 up : Int
 pk : Int
 Hm : Int
 c0 : List Int
 r : List (List Int)
 N0 : Nat
structure NdOk (L : List Sn) (s : ByteArray) (D : Nd) : Prop where
 me : ∃ T0 : AT, L[D.me]? = some (T0, D.f0, D.up) ∧ T0.k = D.pk ∧ T0.wd = D.wd
 hm : D.Hm = homeK L D.me
 hlt : 0 ≤ D.Hm ∧ D.Hm ≤ D.me
 hup : D.pk ≠ 51 → D.pk ≠ 52 → homeK L D.up = D.Hm ∧ D.Hm < D.me
 end_ : D.f0 + D.wd ≤ endS L D.Hm
 c0r : ∀ k ∈ flat (D.c0 :: D.r), k < D.N0
 old : ∀ k : Nat, k < D.N0 → ∀ q, D.f0 ≤ q → q < D.f0 + D.wd → ((k : Int) ∈ flat (D.c0 :: D.r) ↔ cK L s k q = true)
 par : D.pk = 55 → ∀ q, D.f0 ≤ q → q < D.f0 + D.wd → ¬ pblk L D.up q
 pos : 0 ≤ D.f0
structure LI (L : List Sn) (s : ByteArray) (stop : Int) (D : Nd) (p : Nat) (f : Int) (x : LS) (X : List Int) : Prop where
 inv : Inv L s stop p f x.st ((D.c0 ++ X) :: D.r) D.Hm
 n0 : D.N0 ≤ (dsP L s p).length
 xr : Rng D.N0 (dsP L s p).length X
 mr : Rng D.N0 (dsP L s p).length x.mine
 gr : Rng D.N0 (dsP L s p).length x.given
 pr : Rng D.N0 (dsP L s p).length x.par
 m53 : D.pk ≠ 53 → x.mine = []
 g54 : D.pk ≠ 54 → x.given = []
 p55 : D.pk ≠ 55 → x.par = []
 new : ∀ k : Nat, D.N0 ≤ k → k < (dsP L s p).length → ∀ q, f ≤ q → (cK L s k q = true ↔ (q < endS L D.Hm ∧ ((k : Int) ∈ X ∨ ((k : Int) ∈ x.mine ∧ D.f0 + D.wd ≤ q))) ∨ ((k : Int) ∈ x.given ∧ blk L D.me q) ∨ ((k : Int) ∈ x.par ∧ pblk L D.up q))
 ag : D.pk = 55 → ∀ u, 0 ≤ x.ag u ∧ (0 < x.ag u ↔ ∃ d ∈ dsP L s p, d.name = u ∧ d.home = D.me)
 hom : ∀ k : Nat, D.N0 ≤ k → k < (dsP L s p).length → ∀ d, (dsP L s L.length)[k]? = some d → d.home = D.Hm ∨ (D.me : Int) ≤ d.home
def KLaw (L : List Sn) (s : ByteArray) (stop : Int) (T : AT) : Prop := ∀ (P Q : List Sn) (f up : Int) (x : St) (c : List Int) (r : List (List Int)), L = P ++ seenT T f up P.length ++ Q → (∀ y ∈ Q, (y.2.2 < P.length ∨ (P.length : Int) + nT T ≤ y.2.2) ∧ f + T.wd ≤ y.2.1) → 50 ≤ T.k → 0 ≤ f → goodT T.erase → tokT T.erase →
 Inv L s stop P.length f x (c :: r) (homeK L P.length) → (∀ k : Nat, k < (dsP L s P.length).length → ∀ q, f ≤ q → q < f + T.wd → ((k : Int) ∈ flat (c :: r) ↔ cK L s k q = true)) → f + T.wd ≤ endS L (homeK L P.length) → (T.k = 55 → ∀ q, f ≤ q → q < f + T.wd → ¬ pblk L up q) →
 ∃ X, Inv L s stop (P.length + nT T) (f + T.wd) (kidsT s stop T f x).1 ((c ++ X) :: r) (homeK L P.length) ∧ Rng (dsP L s P.length).length (dsP L s (P.length + nT T)).length X ∧ Rng (dsP L s P.length).length (dsP L s (P.length + nT T)).length (kidsT s stop T f x).2 ∧ (T.k ≠ 55 → (kidsT s stop T f x).2 = []) ∧
  (∀ k : Nat, (dsP L s P.length).length ≤ k → k < (dsP L s (P.length + nT T)).length → ∀ q, f + T.wd ≤ q → (cK L s k q = true ↔ (q < endS L (homeK L P.length) ∧ (k : Int) ∈ X) ∨ ((k : Int) ∈ (kidsT s stop T f x).2 ∧ pblk L up q))) ∧
  (∀ k : Nat, (dsP L s P.length).length ≤ k → k < (dsP L s (P.length + nT T)).length → ∀ d, (dsP L s L.length)[k]? = some d → d.home = homeK L P.length ∨ (P.length : Int) ≤ d.home)
theorem flat_app (c X : List Int) (r : List (List Int)) (k : Int) : k ∈ flat ((c ++ X) :: r) ↔ k ∈ flat (c :: r) ∨ k ∈ X := by
 simp only [flat, List.mem_append]; constructor
 ·rintro (h | h | h)
  ·exact .inl (.inl h)
  ·exact .inl (.inr h)
  ·exact .inr h
 ·rintro ((h | h) | h)
  ·exact .inl h
  ·exact .inr (.inl h)
  ·exact .inr (.inr h)
theorem LI.mem {D : Nd} {p : Nat} {f : Int} {x : LS} {X : List Int} (hD : NdOk L s D) (h : LI L s stop D p f x X) (k : Nat) (hk : k < (dsP L s p).length) {q : Int} (h0 : D.f0 ≤ q) (hf : f ≤ q) (hq : q < D.f0 + D.wd) : ((k : Int) ∈ flat ((D.c0 ++ X) :: D.r) ∨ ((k : Int) ∈ x.given ∧ blk L D.me q)) ↔ cK L s k q = true := by
 rw [flat_app]; have he := hD.end_; by_cases hkn : k < D.N0
 ·rw [← hD.old k hkn q h0 hq]
  constructor
  ·rintro ((h1 | h1) | ⟨h1, _⟩)
   ·exact h1
   ·have := h.xr _ h1; omega
   ·have := h.gr _ h1; omega
  ·exact fun h1 => .inl (.inl h1)
 ·rw [h.new k q9 hk q hf]
  constructor
  ·rintro ((h1 | h1) | h1)
   ·have := hD.c0r _ h1; omega
   ·exact .inl ⟨q9, .inl h1⟩
   ·exact .inr (.inl h1)
  ·rintro (⟨_, h1 | ⟨_, h1⟩⟩ | h1 | ⟨h1, h2⟩)
   ·exact .inl (.inr h1)
   ·omega
   ·exact .inr h1
   ·by_cases h55 : D.pk = 55
    ·exact absurd h2 (hD.par h55 q h0 hq)
    ·rw [h.p55 h55] at h1; cases h1
theorem Rng.more {a b c : Nat} {l : List Int} (h : Rng a b l) (hc : b ≤ c) : Rng a c l := fun z hz => by have := h z hz; omega
theorem Rng.snoc {a b : Nat} {l : List Int} (h : Rng a b l) (hab : a ≤ b) : Rng a (b + 1) (l ++ [(b : Int)]) := fun z hz => by
 rcases List.mem_append.1 hz with hz | hz
 ·have := h z hz; omega
 ·obtain rfl := List.mem_singleton.1 hz; omega
theorem not_rng {a b k : Nat} {l : List Int} (h : Rng a b l) (hk : b ≤ k) : (k : Int) ∉ l := fun hz => by have := h _ hz; omega
theorem Rel.ne {x : St} {c : List Int} {r : List (List Int)} (h : Rel s x (c :: r)) : ∃ t l, x.ls = t :: l := by
 have hn := h.nm; cases e : x.ls with
 | nil => rw [e] at hn; simp at hn
 | cons t l => exact ⟨t, l, rfl⟩
theorem again_eq {g : ByteArray → Int} {u : ByteArray} {l : List Dc} {h : Int} (hg : 0 < g u ↔ ∃ d ∈ l, d.name = u ∧ d.home = h) : decide (0 < g u) = l.any fun d => decide (d.name = u) && decide (d.home = h) := by
 rw [Bool.eq_iff_iff, decide_eq_true_iff, hg, List.any_eq_true]; simp only [Bool.and_eq_true, decide_eq_true_eq]
theorem bump_iff {g : ByteArray → Int} {u : ByteArray} {l : List Dc} {h : Int} (hg : ∀ v, 0 ≤ g v ∧ (0 < g v ↔ ∃ d ∈ l, d.name = v ∧ d.home = h)) {m : Dc} (hn : m.name = u) (hh : m.home = h) (v : ByteArray) : 0 ≤ bump g u v ∧ (0 < bump g u v ↔ ∃ d ∈ l ++ [m], d.name = v ∧ d.home = h) := by
 unfold bump upd
 have h1 := hg v; have h2 := hg u; by_cases e : v = u
 ·rw [if_pos e]
  exact ⟨q9, fun _ => ⟨m, qf, by rw [e]; exact hn, hh⟩, fun _ => q9⟩
 ·rw [if_neg e]
  refine ⟨h1.1, fun h3 => ?_, fun h3 => ?_⟩
  ·obtain ⟨d, hd, h4⟩ := h1.2.1 h3
   exact ⟨d, List.mem_append_left _ hd, h4⟩
  ·obtain ⟨d, hd, h4⟩ := h3
   rcases List.mem_append.1 hd with hd | hd
   ·exact h1.2.2 ⟨d, hd, h4⟩
   ·obtain rfl := List.mem_singleton.1 hd
    exact absurd (h4.1.symm.trans hn) e
theorem Inv.declT {p p' : Nat} {f a b kind : Int} {x : St} {c : List Int} {r : List (List Int)} {Hm : Int} {m : Dc} (h : Inv L s stop p f x (c :: r) Hm) (hds : dsP L s p' = dsP L s p ++ [m]) (hus : usP L s p' = usP L s p) (h1 : m.f = a) (h2 : m.t = b) (h3 : m.kind = kind) (h4 : m.name = cutS s a b) (h5 : m.home = Hm)
  (h6 : m.again = (dsP L s p).any fun d => decide (d.name = cutS s a b) && decide (d.home = Hm)) : Inv L s stop p' f (declT s a b kind x) (c :: r) Hm := by
 obtain ⟨t, l, e⟩ := h.rel.ne; have htop : topH x.ls = t.2 := by rw [e]; rfl
 have hg := h.hm t l e; refine ⟨?_, by rw [hus]; exact h.bs, h.rel.declT a b kind, h.sh, fun t' r' ht u => ?_⟩
 ·simp only [H.declT, declD]
  rw [hds, List.map_append, h.ds, List.map_singleton, htop, again_eq (hg _).2]; unfold outD
  rw [h1, h2, h3, h6]
 ·simp only [H.declT, declD, e, setH, topH, List.cons.injEq] at ht
  rw [← ht.1, hds]; exact bump_iff hg h4 h5 u
theorem Inv.declD {p p' : Nat} {f a b kind : Int} {x : St} {cs : List (List Int)} {Hm h' : Int} {m : Dc} {g : ByteArray → Int} (h : Inv L s stop p f x cs Hm) (hds : dsP L s p' = dsP L s p ++ [m]) (hus : usP L s p' = usP L s p) (h1 : m.f = a) (h2 : m.t = b) (h3 : m.kind = kind) (h5 : m.home ≠ Hm)
  (hg : 0 < g (cutS s a b) ↔ ∃ d ∈ dsP L s p, d.name = cutS s a b ∧ d.home = h') (h6 : m.again = (dsP L s p).any fun d => decide (d.name = cutS s a b) && decide (d.home = h')) : Inv L s stop p' f (declD s a b kind g x) cs Hm := by
 refine ⟨?_, by rw [hus]; exact h.bs, h.rel.declD a b kind g, h.sh, fun t' r' ht u => ?_⟩
 ·simp only [H.declD]
  rw [hds, List.map_append, h.ds, List.map_singleton, again_eq hg]; unfold outD
  rw [h1, h2, h3, h6]
 ·obtain ⟨h7, h8⟩ := h.hm t' r' ht u
  refine ⟨h7, h8.trans ?_⟩
  rw [hds]; constructor
  ·rintro ⟨d, hd, h9⟩
   exact ⟨d, List.mem_append_left _ hd, h9⟩
  ·rintro ⟨d, hd, h9⟩
   rcases List.mem_append.1 hd with hd | hd
   ·exact ⟨d, hd, h9⟩
   ·obtain rfl := List.mem_singleton.1 hd
    exact absurd h9.2 h5
theorem Inv.count {p : Nat} {f : Int} {x : St} {c : List Int} {r : List (List Int)} {Hm : Int} (h : Inv L s stop p f x (c :: r) Hm) (l : List Int) (hl : Rng 0 (dsP L s p).length l) : Inv L s stop p f (countP s x l) ((c ++ l) :: r) Hm := by
 obtain ⟨e1, e2, e3⟩ := countP_ds s l x; refine ⟨by rw [e1]; exact h.ds, by rw [e2]; exact h.bs, h.rel.countP l (fun k hk => by have := hl k hk; rw [h.dl]; omega), by rw [e3]; exact h.sh, fun t' r' ht u => ?_⟩
 obtain ⟨t, l', e⟩ := h.rel.ne; obtain ⟨_, _, g3⟩ := countP_ls s l x (by rw [e]; simp)
 have h1 : t'.2 = t.2 := by
  rw [ht, e] at g3; exact g3
 rw [h1]; exact h.hm t l' e u
theorem Inv.at_ {p : Nat} {f b : Int} {x : St} {cs : List (List Int)} {Hm : Int} (h : Inv L s stop p f x cs Hm) (he : f = b) : Inv L s stop p b x cs Hm := by rw [← he]; exact h
theorem LI.grow {D : Nd} {p : Nat} {f b : Int} {x x' : LS} {X : List Int} {m : Dc} (hI : LI L s stop D p f x X) (hp : p + 1 ≤ L.length) (hds : dsP L s (p + 1) = dsP L s p ++ [m]) (hfb : f ≤ b) (M Y R : List Int) (hM : M = [] ∨ M = [((dsP L s p).length : Int)]) (hY : Y = [] ∨ Y = [((dsP L s p).length : Int)]) (hR : R = [] ∨ R = [((dsP L s p).length : Int)])
  (inv : Inv L s stop (p + 1) b x'.st ((D.c0 ++ (X ++ Y)) :: D.r) D.Hm) (em : x'.mine = x.mine ++ M) (eg : x'.given = x.given) (ep : x'.par = x.par ++ R) (m53 : D.pk ≠ 53 → M = []) (p55 : D.pk ≠ 55 → R = [])
  (hag : D.pk = 55 → ∀ u, 0 ≤ x'.ag u ∧ (0 < x'.ag u ↔ ∃ d ∈ dsP L s (p + 1), d.name = u ∧ d.home = D.me)) (hhome : m.home = D.Hm ∨ (D.me : Int) ≤ m.home)
  (hnew : ∀ q, b ≤ q → (countB m q = true ↔ (q < endS L D.Hm ∧ (Y ≠ [] ∨ (M ≠ [] ∧ D.f0 + D.wd ≤ q))) ∨ (R ≠ [] ∧ pblk L D.up q))) : LI L s stop D (p + 1) b x' (X ++ Y) := by
 have hlen : (dsP L s (p + 1)).length = (dsP L s p).length + 1 := by rw [hds, List.length_append, List.length_singleton]
 have ext : ∀ {l e : List Int}, Rng D.N0 (dsP L s p).length l → (e = [] ∨ e = [((dsP L s p).length : Int)]) → Rng D.N0 (dsP L s (p + 1)).length (l ++ e) := fun {l e} h1 h2 => by
  rw [hlen]; rcases h2 with rfl | rfl
  ·rw [List.append_nil]; exact h1.more (Nat.le_succ _)
  ·exact h1.snoc hI.n0
 have hmemN : ∀ {e : List Int} {k : Nat}, (e = [] ∨ e = [((dsP L s p).length : Int)]) → k < (dsP L s p).length → (k : Int) ∉ e := fun {e k} h2 hk h3 => by
  rcases h2 with rfl | rfl
  ·cases h3
  ·have := List.mem_singleton.1 h3; omega
 have hmemS : ∀ {e : List Int}, (e = [] ∨ e = [((dsP L s p).length : Int)]) → (((dsP L s p).length : Int) ∈ e ↔ e ≠ []) := fun {e} h2 => by
  rcases h2 with rfl | rfl
  ·simp
  ·simp
 have hmat : (dsP L s (p + 1))[(dsP L s p).length]? = some m := by rw [hds]; simp
 refine ⟨inv, by rw [hlen]; have := hI.n0; omega, ext hI.xr hY, by rw [em]; exact ext hI.mr hM, by rw [eg, hlen]; exact hI.gr.more (Nat.le_succ _), by rw [ep]; exact ext hI.pr hR, fun h => by rw [em, hI.m53 h, m53 h]; rfl, fun h => by rw [eg]; exact hI.g54 h, fun h => by rw [ep, hI.p55 h, p55 h]; rfl, fun k h1 h2 q hq => ?_, hag, fun k h1 h2 d hd => ?_⟩
 ·rw [em, eg, ep]
  simp only [List.mem_append]; by_cases hk : k < (dsP L s p).length
  ·have := hI.new k h1 hk q q9
   rw [this]; have n1 := hmemN hM hk; have n2 := hmemN hY hk; have n3 := hmemN hR hk; simp only [n1, n2, n3, or_false]
  ·obtain rfl : k = (dsP L s p).length := by omega
   rw [cK_at hp hmat, hnew q hq]; have n1 := not_rng hI.mr (Nat.le_refl _); have n2 := not_rng hI.xr (Nat.le_refl _); have n3 := not_rng hI.pr (Nat.le_refl _); have n4 := not_rng hI.gr (Nat.le_refl _); simp only [n1, n2, n3, n4, false_or, false_and, hmemS hM, hmemS hY, hmemS hR]
 ·by_cases hk : k < (dsP L s p).length
  ·exact hI.hom k h1 hk d hd
  ·obtain rfl : k = (dsP L s p).length := by omega
   rw [ds_at hp (Nat.le_refl _) q9, hmat] at hd
   rw [← Option.some.inj hd]; exact hhome
theorem LI.same {D : Nd} {p p' : Nat} {f b : Int} {x x' : LS} {X : List Int} (hI : LI L s stop D p f x X) (hds : dsP L s p' = dsP L s p) (hfb : f ≤ b) (inv : Inv L s stop p' b x'.st ((D.c0 ++ X) :: D.r) D.Hm) (em : x'.mine = x.mine) (eg : x'.given = x.given) (ep : x'.par = x.par) (ea : x'.ag = x.ag) : LI L s stop D p' b x' X := by
 refine ⟨inv, by rw [hds]; exact hI.n0, by rw [hds]; exact hI.xr, by rw [hds, em]; exact hI.mr, by rw [hds, eg]; exact hI.gr, by rw [hds, ep]; exact hI.pr, fun h => by rw [em]; exact hI.m53 h, fun h => by rw [eg]; exact hI.g54 h, fun h => by rw [ep]; exact hI.p55 h, fun k h1 h2 q hq => ?_, fun h u => by rw [ea, hds]; exact hI.ag h u, fun k h1 h2 d hd => hI.hom k h1 (by rw [← hds]; exact h2) d hd⟩
 rw [em, eg, ep]; exact hI.new k h1 (by rw [← hds]; exact h2) q q9
theorem LI.kid {D : Nd} {p p' : Nat} {f b : Int} {x x' : LS} {X X2 Z : List Int} (hD : NdOk L s D) (hI : LI L s stop D p f x X) (hpp : p ≤ p') (hp' : p' ≤ L.length) (hme : D.me < p) (hfb : f ≤ b) (inv : Inv L s stop p' b x'.st ((D.c0 ++ (X ++ X2)) :: D.r) D.Hm) (hX2 : Rng (dsP L s p).length (dsP L s p').length X2) (hZ : Rng (dsP L s p).length (dsP L s p').length Z)
  (em : x'.mine = x.mine) (eg : x'.given = x.given ++ Z) (ep : x'.par = x.par) (ea : x'.ag = x.ag) (hz : D.pk ≠ 54 → Z = [])
  (hnew : ∀ k : Nat, (dsP L s p).length ≤ k → k < (dsP L s p').length → ∀ q, b ≤ q → (cK L s k q = true ↔ (q < endS L D.Hm ∧ (k : Int) ∈ X2) ∨ ((k : Int) ∈ Z ∧ blk L D.me q)))
  (hhom : ∀ k : Nat, (dsP L s p).length ≤ k → k < (dsP L s p').length → ∀ d, (dsP L s L.length)[k]? = some d → d.home = D.Hm ∨ (p : Int) ≤ d.home) : LI L s stop D p' b x' (X ++ X2) := by
 have hm := ds_mono (s := s) hpp hp'; have ext : ∀ {l e : List Int}, Rng D.N0 (dsP L s p).length l → Rng (dsP L s p).length (dsP L s p').length e → Rng D.N0 (dsP L s p').length (l ++ e) := fun {l e} h1 h2 => h1.app h2 hI.n0 hm
 refine ⟨inv, Nat.le_trans hI.n0 hm, ext hI.xr hX2, by rw [em]; exact hI.mr.more hm, by rw [eg]; exact ext hI.gr hZ, by rw [ep]; exact hI.pr.more hm, fun h => by rw [em]; exact hI.m53 h, fun h => by rw [eg, hI.g54 h, hz h]; rfl, fun h => by rw [ep]; exact hI.p55 h, fun k h1 h2 q hq => ?_, fun h u => ?_, fun k h1 h2 d hd => ?_⟩
 ·rw [em, eg, ep]
  simp only [List.mem_append]; by_cases hk : k < (dsP L s p).length
  ·rw [hI.new k h1 hk q q9]
   have n1 : (k : Int) ∉ X2 := fun h => by have := hX2 _ h; omega
   have n2 : (k : Int) ∉ Z := fun h => by have := hZ _ h; omega
   simp only [n1, n2, or_false]
  ·rw [hnew k q9 h2 q hq]
   have n1 := not_rng hI.mr (show (dsP L s p).length ≤ k by omega)
   have n2 := not_rng hI.xr (show (dsP L s p).length ≤ k by omega)
   have n3 := not_rng hI.pr (show (dsP L s p).length ≤ k by omega)
   have n4 := not_rng hI.gr (show (dsP L s p).length ≤ k by omega)
   simp only [n1, n2, n3, n4, false_or, false_and, or_false]
 ·obtain ⟨h1, h2⟩ := hI.ag h u
  rw [ea]; refine ⟨h1, h2.trans ?_⟩
  obtain ⟨l, e⟩ := ds_pre (s := s) hpp hp'; rw [e]; constructor
  ·rintro ⟨d, hd, h3⟩
   exact ⟨d, List.mem_append_left _ hd, h3⟩
  ·rintro ⟨d, hd, h3⟩
   rcases List.mem_append.1 hd with hd | hd
   ·exact ⟨d, hd, h3⟩
   ·exfalso
    obtain ⟨j, hj, hjd⟩ := List.mem_iff_getElem.1 hd; have hk : (dsP L s L.length)[(dsP L s p).length + j]? = some d := by
     rw [ds_at hp' (Nat.le_refl _) (by rw [e, List.length_append]; omega), e, List.getElem?_append_right q9, Nat.add_sub_cancel_left, List.getElem?_eq_getElem hj, hjd]
    have h4 := hhom _ (Nat.le_add_right _ _) (by rw [e, List.length_append]; omega) d hk
    have h5 := (hD.hup q9 q9).2
    omega
 ·by_cases hk : k < (dsP L s p).length
  ·exact hI.hom k h1 hk d hd
  ·rcases hhom k q9 h2 d hd with h3 | h3
   ·exact .inl h3
   ·exact .inr q9
end
section
variable {L : List Sn} {s : ByteArray} {n stop : Int}
theorem leaf_kids {T : AT} (hg : goodT T.erase) (hk : T.k ≤ 50) : T.kids = [] ∧ nT T = 1 ∧ ∀ f up me, seenT T f up me = [(T, f, up)] := by
 obtain ⟨k, w, wd, A, c, kids⟩ := T; simp only [AT.erase, goodT] at hg; have h1 : zbr kids = [] := hg.2.1 hk; have h2 : kids = [] := by
  have := zbj kids; rw [h1] at this; exact List.eq_nil_of_length_eq_zero this.symm
 subst h2; exact ⟨rfl, by simp [nT, nL], fun f up me => by simp [seenT, seenL]⟩
theorem tok_k {T : AT} (ht : tokT T.erase) (hk : T.k < 50) : 1 ≤ T.wd := by
 obtain ⟨k, w, wd, A, c, kids⟩ := T; simp only [AT.erase, tokT] at ht; exact ht.1 hk
theorem loop_step (cx : Cx L n) {D : Nd} (hD : NdOk L s D) (T : AT) (P Q : List Sn) (f : Int) (x : LS) (X : List Int) (hK : 50 ≤ T.k → KLaw L s stop T) (hL : L = P ++ seenT T f D.me P.length ++ Q) (hQ : ∀ y ∈ Q, (y.2.2 < P.length ∨ (P.length : Int) + nT T ≤ y.2.2) ∧ f + T.wd ≤ y.2.1)
  (hme : D.me < P.length) (h0 : D.f0 ≤ f) (hfe : f + T.wd ≤ D.f0 + D.wd) (hg : goodT T.erase) (ht : tokT T.erase) (h51 : T.k ≠ 51) (hin : T.k = 52 → ∀ q, f ≤ q → q < f + T.wd → blk L D.me q) (hout : T.k ≠ 52 → ∀ q, f ≤ q → q < f + T.wd → ¬ blk L D.me q) (hI : LI L s stop D P.length f x X) :
  ∃ X', LI L s stop D (P.length + nT T) (f + T.wd) (stepW s stop D.pk T.k f (f + T.wd) x (fun y => kidsT s stop T f y)) X' := by
 obtain ⟨T0, hT0, hpk, hwd⟩ := hD.me; have htw : 0 ≤ T.wd := by have h := hg.w.1; rw [erase_f] at h; exact h
 have hpos := hD.pos; have hf : 0 ≤ f := by omega
 have hx : L[P.length]? = some (T, f, (D.me : Int)) := by
  rw [hL, List.append_assoc, List.getElem?_append_right (Nat.le_refl _), Nat.sub_self]; obtain ⟨k, w, wd, A, c, kids⟩ := T
  rfl
 have hpl : P.length < L.length := (List.getElem?_eq_some_iff.1 hx).1; have hend := hD.end_; have hbpos : 0 ≤ f + T.wd := by omega
 by_cases t50 : T.k < 50
 ·
  obtain ⟨hkn, hn1, hseen⟩ := leaf_kids hg q9
  have hw1 := tok_k ht t50; rw [hn1]; have hL1 : L = P ++ (T, f, (D.me : Int)) :: Q := by rw [hL, hseen]; simp
  have hnew : ∀ q, q < f + T.wd → ∀ k, (dsP L s P.length).length ≤ k → cK L s k q = false := fun q hq k hk => leaf_new (s := s) cx hL1 (fun y hy => (hQ y hy).2) hq k hk
  have hold : ∀ q, f ≤ q → q < f + T.wd → ∀ k : Nat, k < (dsP L s P.length).length → ((k : Int) ∈ flat ((D.c0 ++ X) :: D.r) ↔ cK L s k q = true) := fun q h1 h2 k hk => by
   rw [← hI.mem hD k hk q9 h1 q9]
   constructor
   ·exact .inl
   ·rintro (h3 | ⟨_, h3⟩)
    ·exact h3
    ·exact absurd h3 (hout q9 q h1 h2)
  have hat : ∀ q, f ≤ q → q < f + T.wd → At L s P.length q ((D.c0 ++ X) :: D.r) := fun q h1 h2 => ⟨hold q h1 h2, hnew q h2⟩
  have hlook : Inv L s stop P.length (f + T.wd) (lookP s stop f (f + T.wd) x.st) ((D.c0 ++ X) :: D.r) D.Hm := hI.inv.look cx.ok q9 hf q9 (fun h1 h2 => hat stop h1 h2)
  have hdl := hI.inv.dl; have hldl := hlook.dl; by_cases t6 : T.k = 6
  ·
   have hcut : nmS s (T, f, (D.me : Int)) = cutS s f (f + T.wd) := rfl; by_cases k53 : D.pk = 53
   ·obtain ⟨hds, hus⟩ := step_decl (s := s) hx t6 rfl hT0 (.inl (hpk.trans k53))
    obtain ⟨hup, hlt⟩ := hD.hup q9 q9
    obtain ⟨m, hm⟩ : ∃ m, m = mkD L s (dsP L s P.length) (T, f, (D.me : Int)) (T0, D.f0, D.up) D.me := ⟨_, rfl⟩; rw [← hm] at hds; have hmk : m.f = f ∧ m.t = f + T.wd ∧ m.kind = 1 ∧ m.name = cutS s f (f + T.wd) ∧ m.home = D.Hm ∧ m.again = (dsP L s P.length).any (fun d => decide (d.name = cutS s f (f + T.wd)) && decide (d.home = D.Hm)) ∧ m.counts = [⟨D.f0 + D.wd, endS L D.Hm⟩] := by
     have e1 : ¬ (T0.k = 55) := by omega
     have e2 : T0.k = 53 := hpk.trans k53; rw [hm]; simp only [mkD, if_neg e1, if_pos e2, hup, hwd, hcut, and_self]
    obtain ⟨m1, m2, m3, m4, m5, m6, m7⟩ := hmk; have hi1 := (hI.inv.declT hds hus m1 m2 m3 m4 m5 m6); have hi2 := hi1.look cx.ok q9 hf (show f ≤ f + T.wd by omega) (fun h1 h2 => ⟨fun k hk => by
     rw [hds, List.length_append, List.length_singleton] at hk; by_cases hkl : k < (dsP L s P.length).length
     ·exact hold stop h1 h2 k hkl
     ·rw [hnew stop h2 k q9]
      refine ⟨fun h3 => ?_, fun h3 => by cases h3⟩
      have := (hI.inv.rel.rng _ h3).2; omega, fun k hk => hnew stop h2 k (by rw [hds, List.length_append] at hk; omega)⟩)
    refine ⟨X ++ [], ?_⟩
    unfold stepW
    rw [if_pos ⟨t6, k53⟩]; refine hI.grow q9 hds q9 [((dsP L s P.length).length : Int)] [] [] (.inr rfl) (.inl rfl) (.inl rfl) (by rw [List.append_nil]; exact hi2) (by rw [← hdl]) rfl (by rw [List.append_nil]) (fun h => absurd k53 h) (fun _ => rfl) (fun h => q9) (.inl m5) (fun q hq => ?_)
    rw [countB_iff, m2, m7]; simp only [List.mem_singleton, exists_eq_left]; constructor
    ·rintro ⟨h1, h2, h3⟩; exact .inl ⟨h3, .inr ⟨qf, h2⟩⟩
    ·rintro (⟨h1, h2 | ⟨_, h2⟩⟩ | ⟨h1, _⟩)
     ·exact absurd rfl h2
     ·exact ⟨hq, h2, h1⟩
     ·exact absurd rfl h1
   by_cases k54 : D.pk = 54
   ·obtain ⟨hds, hus⟩ := step_decl (s := s) hx t6 rfl hT0 (.inr (.inl (hpk.trans k54)))
    obtain ⟨hup, hlt⟩ := hD.hup q9 q9
    obtain ⟨m, hm⟩ : ∃ m, m = mkD L s (dsP L s P.length) (T, f, (D.me : Int)) (T0, D.f0, D.up) D.me := ⟨_, rfl⟩; rw [← hm] at hds; have hmk : m.f = f ∧ m.t = f + T.wd ∧ m.kind = 2 ∧ m.name = cutS s f (f + T.wd) ∧ m.home = D.Hm ∧ m.again = (dsP L s P.length).any (fun d => decide (d.name = cutS s f (f + T.wd)) && decide (d.home = D.Hm)) ∧ m.counts = [⟨f + T.wd, endS L D.Hm⟩] := by
     have e1 : ¬ (T0.k = 55) := by omega
     have e2 : T0.k = 54 := hpk.trans k54; have e3 : ¬ (T0.k = 53) := by omega
     rw [hm]; simp only [mkD, if_neg e1, if_pos e2, if_neg e3, hup, hcut, and_self]
    obtain ⟨m1, m2, m3, m4, m5, m6, m7⟩ := hmk; have hi1 := (hlook.declT hds hus m1 m2 m3 m4 m5 m6).count [((dsP L s P.length).length : Int)] (fun z hz => by obtain rfl := List.mem_singleton.1 hz; rw [hds, List.length_append, List.length_singleton]; omega)
    rw [List.append_assoc] at hi1; refine ⟨X ++ [((dsP L s P.length).length : Int)], ?_⟩
    unfold stepW
    rw [if_neg q9, if_pos ⟨t6, k54⟩, hldl]
    refine hI.grow q9 hds q9 [] [((dsP L s P.length).length : Int)] [] (.inl rfl) (.inr rfl) (.inl rfl) hi1 (by rw [List.append_nil]) rfl (by rw [List.append_nil]) (fun _ => rfl) (fun _ => rfl) (fun h => q9) (.inl m5) (fun q hq => ?_)
    rw [countB_iff, m2, m7]; simp only [List.mem_singleton, exists_eq_left]; constructor
    ·rintro ⟨h1, h2, h3⟩; exact .inl ⟨h3, .inl qf⟩
    ·rintro (⟨h1, h2 | ⟨h2, _⟩⟩ | ⟨h1, _⟩)
     ·exact ⟨hq, hq, h1⟩
     ·exact absurd rfl h2
     ·exact absurd rfl h1
   by_cases k55 : D.pk = 55
   ·obtain ⟨hds, hus⟩ := step_decl (s := s) hx t6 rfl hT0 (.inr (.inr (hpk.trans k55)))
    obtain ⟨hup, hlt⟩ := hD.hup q9 q9
    obtain ⟨m, hm⟩ : ∃ m, m = mkD L s (dsP L s P.length) (T, f, (D.me : Int)) (T0, D.f0, D.up) D.me := ⟨_, rfl⟩; rw [← hm] at hds; have hmk : m.f = f ∧ m.t = f + T.wd ∧ m.kind = 3 ∧ m.name = cutS s f (f + T.wd) ∧ m.home = D.me ∧ m.again = (dsP L s P.length).any (fun d => decide (d.name = cutS s f (f + T.wd)) && decide (d.home = (D.me : Int))) ∧ m.counts = if kindS L D.up = 54 then zbH L D.up else [] := by
     have e1 : T0.k = 55 := hpk.trans k55; have e2 : ¬ (T0.k = 54) := by omega
     have e3 : ¬ (T0.k = 53) := by omega
     rw [hm]; simp only [mkD, if_pos e1, if_neg e2, if_neg e3, hcut, and_self]
    obtain ⟨m1, m2, m3, m4, m5, m6, m7⟩ := hmk; have hag := hI.ag k55; have hi1 := hlook.declD (g := x.ag) hds hus m1 m2 m3 (by rw [m5]; omega) (hag _).2 m6
    refine ⟨X ++ [], ?_⟩
    unfold stepW
    rw [if_neg q9, if_neg q9, if_pos ⟨t6, k55⟩, hldl]
    refine hI.grow q9 hds q9 [] [] [((dsP L s P.length).length : Int)] (.inl rfl) (.inl rfl) (.inr rfl) (by rw [List.append_nil]; exact hi1) (by rw [List.append_nil]) rfl rfl (fun _ => rfl) (fun h => absurd k55 h) (fun _ u => by rw [hds]; exact bump_iff hag m4 m5 u) (.inr (by rw [m5]; exact Int.le_refl _)) (fun q hq => ?_)
    rw [countB_iff, m2, m7]; unfold pblk blk
    constructor
    ·rintro ⟨h1, c, hc, h2, h3⟩
     refine .inr ⟨qf, ?_⟩
     by_cases hkd : kindS L D.up = 54
     ·rw [if_pos hkd] at hc; exact ⟨hkd, c, hc, h2, h3⟩
     ·rw [if_neg hkd] at hc; cases hc
    ·rintro (⟨h1, h2 | ⟨h2, _⟩⟩ | ⟨_, hkd, c, hc, h2, h3⟩)
     ·exact absurd rfl h2
     ·exact absurd rfl h2
     ·exact ⟨hq, c, by rw [if_pos hkd]; exact hc, h2, h3⟩
   by_cases k66 : D.pk = 66
   ·obtain ⟨hds, hus⟩ := step_use (s := s) hx t6 rfl hT0 (hpk.trans k66)
    have hml := means_last (L := L) q9 (all_names cx.ok) hlook.rel hlook.ds (hat f (Int.le_refl _) q9) (cutS s f (f + T.wd))
    refine ⟨X, ?_⟩
    unfold stepW
    rw [if_neg q9, if_neg q9, if_neg q9, if_pos ⟨t6, k66⟩]
    refine hI.same hds q9 ⟨by rw [hds]; exact hlook.ds, ?_, ⟨hlook.rel.nm, hlook.rel.kn, hlook.rel.rng⟩, hlook.sh, fun t r h u => by rw [hds]; exact hlook.hm t r h u⟩ rfl rfl rfl rfl
    simp only; rw [hus, List.map_append, hlook.bs, List.map_singleton, hml]
    rfl
   ·have hno := step_no (s := s) hx (.inr fun u y hu hy => by
     have : u = D.me := by simp only at hu; omega
     subst this; rw [hT0] at hy; obtain rfl := Option.some.inj hy; simp only; omega)
    refine ⟨X, ?_⟩
    unfold stepW
    rw [if_neg q9, if_neg q9, if_neg q9, if_neg q9, if_pos t50]
    exact hI.same hno.1 q9 (hlook.skip hno.1 hno.2) rfl rfl rfl rfl
  ·have hno := step_no (s := s) hx (.inl t6)
   refine ⟨X, ?_⟩
   unfold stepW
   rw [if_neg q9, if_neg q9, if_neg q9, if_neg q9, if_pos t50]
   exact hI.same hno.1 q9 (hlook.skip hno.1 hno.2) rfl rfl rfl rfl
 ·
  have hlen : L.length = P.length + nT T + Q.length := by rw [hL]; simp only [List.length_append, zbK]
  have hp' : P.length + nT T ≤ L.length := by omega
  have hstep := homeK_step cx.ok hx; by_cases t52 : T.k = 52
  ·have hHome : homeK L (P.length : Int) = P.length := by rw [hstep, if_pos (.inl t52)]
   have hEnd : endS L (homeK L (P.length : Int)) = f + T.wd := by rw [hHome]; unfold endS; rw [Int.toNat_natCast, hx]
   have hgiv : stepW s stop D.pk T.k f (f + T.wd) x (fun y => kidsT s stop T f y) = { x with st := zbM (kidsT s stop T f (countP s (openP x.st) x.given)).1 } := by
    unfold stepW
    rw [if_neg q9, if_neg q9, if_neg q9, if_neg q9, if_neg t50]
    by_cases k54 : D.pk = 54
    ·rw [if_pos ⟨t52, k54⟩]
    ·rw [if_neg (fun h => k54 h.2), if_pos t52, hI.g54 k54]
     rfl
   have hop : Inv L s stop P.length f (openP x.st) ([] :: (D.c0 ++ X) :: D.r) (homeK L P.length) := by
    refine ⟨hI.inv.ds, hI.inv.bs, hI.inv.rel.open_, hI.inv.sh, fun t r h u => ?_⟩
    simp only [openP, List.cons.injEq] at h; rw [← h.1]; refine ⟨Int.le_refl _, fun h => absurd h (Int.lt_irrefl _), ?_⟩
    rintro ⟨d, hd, _, h2⟩
    have := (ds_home cx.ok P.length q9 d hd).1
    rw [hHome] at h2; omega
   have hct := hop.count x.given (fun z hz => by have := hI.gr z hz; omega)
   have hne : (countP s (openP x.st) x.given).ls ≠ [] := (countP_ls s x.given (openP x.st) (by simp [openP])).1
   obtain ⟨X2, i1, i2, i3, i4, i5, i6⟩ := hK q9 P Q f D.me (countP s (openP x.st) x.given) ([] ++ x.given) ((D.c0 ++ X) :: D.r) hL hQ q9 hf hg ht hct (fun k hk q h1 h2 => by
    rw [← hI.mem hD k hk q9 h1 q9, flat_app]
    have hb := hin t52 q h1 h2; constructor
    ·rintro (h3 | h3)
     ·exact .inl (by simp only [flat, List.append_nil] at h3 ⊢; exact h3)
     ·exact .inr ⟨h3, hb⟩
    ·rintro (h3 | ⟨h3, _⟩)
     ·exact .inl (by simp only [flat, List.append_nil] at h3 ⊢; exact h3)
     ·exact .inr h3) (by rw [hEnd]; omega) (fun h => q9)
   have hgro := kidsT_ok s stop T f _ hne; have hls : (zbM (kidsT s stop T f (countP s (openP x.st) x.given)).1).ls = x.st.ls := by
    have h1 := hgro.1.tl; have h2 := (countP_ls s x.given (openP x.st) (by simp [openP])).2.1
    have h3 := ls_ne hgro.1 hne; unfold zbM
    cases e : (kidsT s stop T f (countP s (openP x.st) x.given)).1.ls with
    | nil => exact absurd e h3
    | cons t l =>
     rw [e] at h1; simp only [List.tail_cons] at h1; simp only; rw [h1, h2]
     rfl
   have hcl : ∀ y : St, (zbM y).ds = y.ds ∧ (zbM y).bs = y.bs ∧ (zbM y).sh = y.sh := fun y => by unfold zbM; split <;> exact ⟨rfl, rfl, rfl⟩
   obtain ⟨e1, e2, e3⟩ := hcl (kidsT s stop T f (countP s (openP x.st) x.given)).1; refine ⟨X ++ [], ?_⟩
   rw [hgiv]; refine hI.kid (Z := []) hD (Nat.le_add_right _ _) hp' hme q9 ⟨by rw [e1]; exact i1.ds, by rw [e2]; exact i1.bs, by rw [List.append_nil]; exact i1.rel.close, by rw [e3]; exact i1.sh, fun t r h u => ?_⟩ (Rng.nil _ _) (Rng.nil _ _) rfl (by rw [List.append_nil]) rfl rfl (fun _ => rfl) (fun k h1 h2 q hq => ?_) (fun k h1 h2 d hd => ?_)
   ·rw [hls] at h
    obtain ⟨h1, h2⟩ := hI.inv.hm t r h u; refine ⟨h1, h2.trans ?_⟩
    obtain ⟨l, e⟩ := ds_pre (s := s) (Nat.le_add_right P.length (nT T)) hp'; rw [e]; constructor
    ·rintro ⟨d, hd, h3⟩
     exact ⟨d, List.mem_append_left _ hd, h3⟩
    ·rintro ⟨d, hd, h3⟩
     rcases List.mem_append.1 hd with hd | hd
     ·exact ⟨d, hd, h3⟩
     ·exfalso
      obtain ⟨j, hj, hjd⟩ := List.mem_iff_getElem.1 hd; have hk : (dsP L s L.length)[(dsP L s P.length).length + j]? = some d := by
       rw [ds_at hp' (Nat.le_refl _) (by rw [e, List.length_append]; omega), e, List.getElem?_append_right q9, Nat.add_sub_cancel_left, List.getElem?_eq_getElem hj, hjd]
      have h4 := i6 _ (Nat.le_add_right _ _) (by rw [e, List.length_append]; omega) d hk
      have h5 := hD.hlt; rw [hHome] at h4; omega
   ·rw [i5 k h1 h2 q hq, hEnd, i4 q9]
    constructor
    ·rintro (⟨h3, _⟩ | ⟨h3, _⟩)
     ·omega
     ·cases h3
    ·rintro (⟨_, h3⟩ | ⟨h3, _⟩) <;> cases h3
   ·have h4 := i6 k h1 h2 d hd
    rw [hHome] at h4
    right; omega
  ·have hHome : homeK L (P.length : Int) = D.Hm := by rw [hstep, if_neg qm, hD.hm]
   have hnb := hout t52; obtain ⟨X2, i1, i2, i3, i4, i5, i6⟩ := hK q9 P Q f D.me x.st (D.c0 ++ X) D.r hL hQ q9 hf hg ht (by rw [hHome]; exact hI.inv) (fun k hk q h1 h2 => by
    rw [← hI.mem hD k hk q9 h1 q9]
    constructor
    ·exact .inl
    ·rintro (h3 | ⟨_, h3⟩)
     ·exact h3
     ·exact absurd h3 (hnb q h1 h2)) (by rw [hHome]; omega) (fun _ q h1 h2 h3 => hnb q h1 h2 h3.2)
   rw [hHome] at i1 i5 i6; rw [List.append_assoc] at i1; have hkind : kindS L (D.me : Int) = D.pk := by unfold kindS; rw [if_neg q9, Int.toNat_natCast, hT0]; exact hpk
   refine ⟨X ++ X2, ?_⟩
   unfold stepW
   rw [if_neg q9, if_neg q9, if_neg q9, if_neg q9, if_neg t50, if_neg q9, if_neg t52]
   by_cases h554 : T.k = 55 ∧ D.pk = 54
   ·rw [if_pos h554]
    refine hI.kid hD (Nat.le_add_right _ _) hp' hme q9 i1 i2 i3 rfl rfl rfl rfl (fun h => absurd h554.2 h) (fun k h1 h2 q hq => ?_) (fun k h1 h2 d hd => i6 k h1 h2 d hd)
    rw [i5 k h1 h2 q hq]; unfold pblk
    rw [hkind, h554.2]; simp only [true_and]
   ·rw [if_neg h554]
    refine hI.kid (Z := []) hD (Nat.le_add_right _ _) hp' hme q9 i1 i2 (Rng.nil _ _) rfl (by rw [List.append_nil]) rfl rfl (fun _ => rfl) (fun k h1 h2 q hq => ?_) (fun k h1 h2 d hd => i6 k h1 h2 d hd)
    rw [i5 k h1 h2 q hq]; constructor
    ·rintro (h3 | ⟨h3, h4⟩)
     ·exact .inl h3
     ·exfalso
      by_cases h55 : T.k = 55
      ·exact h554 ⟨h55, hkind.symm.trans h4.1⟩
      ·rw [i4 h55] at h3; cases h3
    ·rintro (h3 | ⟨h3, _⟩)
     ·exact .inl h3
     ·cases h3
end
mutual
theorem seenT_up : ∀ (T : AT) (f up me : Int), up < me → ∀ x ∈ seenT T f up me, up ≤ x.2.2
 | .node k w wd A c kids, f, up, me, h, x, hx => by
  simp only [seenT] at hx; rcases List.mem_cons.1 hx with rfl | hx
  ·exact Int.le_refl _
  ·have := seenL_up kids f me (me + 1) q9 x hx; omega
theorem seenL_up : ∀ (l : List AT) (f up me : Int), up < me → ∀ x ∈ seenL l f up me, up ≤ x.2.2
 | [], f, up, me, h, x, hx => by simp [seenL] at hx
 | T :: r, f, up, me, h, x, hx => by
  simp only [seenL] at hx; rcases List.mem_append.1 hx with hx | hx
  ·exact seenT_up T f up me h x hx
  ·exact seenL_up r (f + T.wd) up (me + nT T) q9 x hx
end
mutual
theorem seenT_eq : ∀ (T : AT) (f up me : Int), up < me → ∀ x ∈ seenT T f up me, x.2.2 = up ∨ me ≤ x.2.2
 | .node k w wd A c kids, f, up, me, h, x, hx => by
  simp only [seenT] at hx; rcases List.mem_cons.1 hx with rfl | hx
  ·exact .inl rfl
  ·exact .inr (seenL_up kids f me (me + 1) q9 x hx)
theorem seenL_eq : ∀ (l : List AT) (f up me : Int), up < me → ∀ x ∈ seenL l f up me, x.2.2 = up ∨ me ≤ x.2.2
 | [], f, up, me, h, x, hx => by simp [seenL] at hx
 | T :: r, f, up, me, h, x, hx => by
  simp only [seenL] at hx; rcases List.mem_append.1 hx with hx | hx
  ·exact seenT_eq T f up me h x hx
  ·have := seenL_eq r (f + T.wd) up (me + nT T) q9 x hx
   omega
end
def inK : List AT → Int → Int → Prop
 | [], _, _ => False
 | T :: r, f, q => (T.k = 52 ∧ f ≤ q ∧ q < f + T.wd) ∨ inK r (f + T.wd) q
theorem inK_lo : ∀ (l : List AT) (f q : Int), (∀ T ∈ l, 0 ≤ T.wd) → inK l f q → f ≤ q ∧ q < f + wdL l
 | [], f, q, _, h => h.elim
 | T :: r, f, q, hw, h => by
  have h0 := hw T List.mem_cons_self; have hr : 0 ≤ wdL r := by
   have : ∀ l : List AT, (∀ T ∈ l, 0 ≤ T.wd) → 0 ≤ wdL l := by
    intro l
    induction l with
    | nil => intro _; simp [wdL]
    | cons a b ih => intro h; have h1 := h a List.mem_cons_self; have h2 := ih (fun T hT => h T (List.mem_cons_of_mem _ hT)); simp only [wdL]; omega
   exact this r (fun T hT => hw T (List.mem_cons_of_mem _ hT))
  simp only [wdL]; rcases h with ⟨_, h1, h2⟩ | h
  ·omega
  ·have := inK_lo r (f + T.wd) q (fun T hT => hw T (List.mem_cons_of_mem _ hT)) h
   omega
def blkF (i : Int) (l : List Sn) : List S60 := (l.filter fun x => decide (x.2.2 = i) && decide (x.1.k = 52)).map fun x => ⟨x.2.1, x.2.1 + x.1.wd⟩
theorem blkF_app (i : Int) (l m : List Sn) : blkF i (l ++ m) = blkF i l ++ blkF i m := by unfold blkF; rw [List.filter_append, List.map_append]
theorem blkF_none {i : Int} {l : List Sn} (h : ∀ x ∈ l, x.2.2 ≠ i) : blkF i l = [] := by
 unfold blkF
 rw [List.filter_eq_nil_iff.2 (fun x hx => by simp [h x hx]), List.map_nil]
theorem blkF_seen (i : Int) : ∀ (l : List AT) (f m q : Int), i < m → ((∃ b ∈ blkF i (seenL l f i m), b.f0 ≤ q ∧ q < b.f1) ↔ inK l f q)
 | [], f, m, q, h => by simp [seenL, blkF, inK]
 | .node k w wd A c kids :: r, f, m, q, h => by
  have ih := blkF_seen i r (f + (AT.node k w wd A c kids).wd) (m + nT (AT.node k w wd A c kids)) q q9
  simp only [seenL, seenT, inK]; rw [blkF_app, ← ih, show ((AT.node k w wd A c kids, f, i) :: seenL kids f m (m + 1)) = [(AT.node k w wd A c kids, f, i)] ++ seenL kids f m (m + 1) from rfl, blkF_app, blkF_none (l := seenL kids f m (m + 1)) (fun x hx => by have := seenL_up kids f m (m + 1) q9 x hx; omega), List.append_nil]
  have h1 : blkF i [(AT.node k w wd A c kids, f, i)] = if k = 52 then [⟨f, f + wd⟩] else [] := by
   unfold blkF
   by_cases hk : k = 52
   ·simp [hk, AT.k, AT.wd]
   ·simp [hk, AT.k]
  rw [h1]; have hk' : (AT.node k w wd A c kids).k = k := rfl; have hw' : (AT.node k w wd A c kids).wd = wd := rfl; rw [hk', hw']; by_cases hk : k = 52
  ·rw [if_pos hk]
   simp only [hk, true_and, List.mem_append, List.mem_singleton]; constructor
   ·rintro ⟨b, h2 | h2, h3⟩
    ·subst h2; exact .inl h3
    ·exact .inr ⟨b, h2, h3⟩
   ·rintro (h3 | ⟨b, h2, h3⟩)
    ·exact ⟨_, .inl rfl, h3⟩
    ·exact ⟨b, .inr h2, h3⟩
  ·rw [if_neg hk]
   simp only [hk, false_and, false_or, List.nil_append]
theorem tokL_mem : ∀ (l : List AT), tokL (zbr l) → ∀ T ∈ l, T.k ≠ 51 ∧ tokT T.erase
 | [], _, T, hT => by cases hT
 | a :: r, h, T, hT => by
  simp only [zbr, tokL] at h; rcases List.mem_cons.1 hT with rfl | hT
  ·refine ⟨?_, h.2.1⟩
   have := h.1; rw [erase_f] at this; exact this
  ·exact tokL_mem r h.2.2 T hT
section
variable {L : List Sn} {s : ByteArray} {n stop : Int}
mutual
theorem kids_law (cx : Cx L n) : ∀ T : AT, KLaw L s stop T
 | .node k w wd A c kids => by
  intro P Q f up x c0 r hL hQ hk50 hf hg ht hInv hold hend hpar
  obtain ⟨T0, hT0⟩ : ∃ T0, T0 = AT.node k w wd A c kids := ⟨_, rfl⟩; have hTk : T0.k = k := by rw [hT0]; rfl
  have hTw : T0.wd = wd := by rw [hT0]; rfl
  have hwd' : (AT.node k w wd A c kids).wd = wd := rfl; have hkk' : (AT.node k w wd A c kids).k = k := rfl; rw [hwd'] at hQ hold hend hpar ⊢; rw [hkk'] at hk50 hpar ⊢; obtain ⟨hwb, hgl, hpre, hkg⟩ := good_node hg; have hx : L[P.length]? = some (T0, f, up) := by
   rw [hL, List.append_assoc, List.getElem?_append_right (Nat.le_refl _), Nat.sub_self, hT0]
   rfl
  have hpl : P.length < L.length := (List.getElem?_eq_some_iff.1 hx).1; have hlen : L.length = P.length + nT (AT.node k w wd A c kids) + Q.length := by rw [hL]; simp only [List.length_append, zbK]
  have hno := step_no (s := s) hx (.inl (by simp only [hTk]; omega))
  have hnT : nT (AT.node k w wd A c kids) = 1 + nL kids := rfl; simp only [AT.erase, goodT] at hg; simp only [AT.erase, tokT] at ht; by_cases h50 : k = 50
  ·have hkn : kids = [] := by
    have h1 := hg.2.1 q9
    have := zbj kids; rw [h1] at this; exact List.eq_nil_of_length_eq_zero this.symm
   subst hkn; have hw0 := ht.2.1 h50; subst h50; have e1 : nT (AT.node 50 w wd A c []) = 1 := rfl; rw [e1]; have hk : kidsT s stop (AT.node 50 w wd A c []) f x = (x, []) := by simp [kidsT, loopL]
   rw [hk, hno.1]; refine ⟨[], ?_, Rng.nil _ _, Rng.nil _ _, fun _ => rfl, fun k h1 h2 => q9, fun k h1 h2 => q9⟩
   rw [List.append_nil]; exact (hInv.skip hno.1 hno.2).at_ q9
  ·have hup := cx.ok.up P.length _ hx
   have hHm := homeK_mem cx.ok (P.length + 1) P.length (Nat.lt_succ_self _) hpl; have hD : NdOk L s ⟨P.length, f, wd, up, k, homeK L P.length, c0, r, (dsP L s P.length).length⟩ := by
    refine ⟨⟨T0, hx, hTk, hTw⟩, rfl, hHm, fun h51 h52 => ?_, hend, fun z hz => ?_, hold, hpar, hf⟩
    ·have h1 := homeK_step cx.ok hx
     simp only at h51 h52; rw [if_neg (by simp only [hTk]; omega)] at h1
     have h0 : 0 < P.length := Nat.pos_of_ne_zero fun e => by
      have := cx.ok.root _ (by rw [← e]; exact hx)
      simp only [hTk] at this; exact h51 this
     have h2 := hup.2.1 h0; obtain ⟨u, hu⟩ : ∃ u : Nat, up = u := ⟨up.toNat, by simp only at h2; omega⟩
     have h3 := homeK_mem cx.ok (u + 1) u (Nat.lt_succ_self _) (by have := hup.2.2; simp only at this; omega)
     simp only at h1 ⊢; refine ⟨h1.symm, ?_⟩
     rw [h1, hu]; have := hup.2.2; simp only at this; omega
    ·have := hInv.rel.rng z hz
     have := hInv.dl; simp only; omega
   obtain ⟨D, hDe⟩ : ∃ D : Nd, D = ⟨P.length, f, wd, up, k, homeK L P.length, c0, r, (dsP L s P.length).length⟩ := ⟨_, rfl⟩; rw [← hDe] at hD; have hL2 : L = (P ++ [(T0, f, up)]) ++ seenL kids f D.me ((P ++ [(T0, f, up)]).length : Int) ++ Q := by
    rw [hL, hDe, hT0]; simp only [seenT, List.append_assoc, List.singleton_append, List.cons_append, List.length_append, List.length_singleton, List.nil_append, Int.natCast_add, Int.natCast_one]
   have hPl : (P ++ [(T0, f, up)]).length = P.length + 1 := by simp
   have hwk : wdL kids = wd := by
    have h1 := (good_kids kids hgl).1; have h2 := hg.2.2.1 q9
    omega
   have hI0 : LI L s stop D (P ++ [(T0, f, up)]).length f ⟨x, fun _ => 0, [], [], []⟩ [] := by
    rw [hPl]; refine ⟨?_, by rw [hno.1, hDe]; exact Nat.le_refl _, Rng.nil _ _, Rng.nil _ _, Rng.nil _ _, Rng.nil _ _, fun _ => rfl, fun _ => rfl, fun _ => rfl, fun k h1 h2 => ?_, fun h u => ⟨Int.le_refl _, fun h => absurd h (Int.lt_irrefl _), ?_⟩, fun k h1 h2 => ?_⟩
    ·rw [List.append_nil, hDe]
     exact hInv.skip hno.1 hno.2
    ·rw [hno.1] at h2; rw [hDe] at h1; simp only at h1; omega
    ·rintro ⟨d, hd, _, h2⟩
     rw [hno.1] at hd; have := (ds_home cx.ok P.length q9 d hd).1
     rw [hDe] at h2; simp only at h2; omega
    ·rw [hno.1] at h2; rw [hDe] at h1; simp only at h1; omega
   have hblk : ∀ q, f ≤ q → (blk L D.me q ↔ inK kids f q) := fun q _ => by
    rw [← blkF_seen D.me kids f ((P.length : Int) + 1) q (by rw [hDe]; simp only; omega)]
    have h1 : zbH L D.me = blkF D.me (seenL kids f D.me ((P.length : Int) + 1)) := by
     show blkF D.me L = _
     have h2 : blkF D.me L = blkF D.me ((P ++ [(T0, f, up)]) ++ seenL kids f D.me ((P ++ [(T0, f, up)]).length : Int) ++ Q) := by rw [← hL2]
     rw [h2, blkF_app, blkF_app, blkF_none (l := P ++ [(T0, f, up)]) (fun y hy => ?_), blkF_none (l := Q) (fun y hy => ?_), List.append_nil, List.nil_append, hPl]
     ·rfl
     ·have := (hQ y hy).1
      rw [hDe]; simp only; rw [hnT] at this; omega
     ·obtain ⟨j, hj, hjy⟩ := List.mem_iff_getElem.1 hy
      have h3 : L[j]? = some y := by
       rw [hL2, List.append_assoc, List.getElem?_append_left hj, List.getElem?_eq_getElem hj, hjy]
      have := (cx.ok.up j y h3).2.2; rw [hPl] at hj; rw [hDe]; simp only; omega
    unfold blk
    rw [h1]
   obtain ⟨X, hI⟩ := loop_law cx kids D hD (P ++ [(T0, f, up)]) Q f ⟨x, fun _ => 0, [], [], []⟩ [] hL2 (fun y hy => by
    have := hQ y hy; rw [hPl]; rw [hnT] at this; omega) (by rw [hPl, hDe]; exact Nat.lt_succ_self _) (by rw [hDe]; exact Int.le_refl _) (by rw [hDe]; simp only; omega) hgl ht.2.2 hblk hI0
   rw [hPl, hwk, show P.length + 1 + nL kids = P.length + nT (AT.node k w wd A c kids) by rw [hnT]; omega] at hI
   obtain ⟨y, hy⟩ : ∃ y, y = loopL s stop k kids f ⟨x, fun _ => 0, [], [], []⟩ := ⟨_, rfl⟩
   rw [show D.pk = k by rw [hDe], ← hy] at hI
   have hD0 : D.c0 = c0 ∧ D.r = r ∧ D.Hm = homeK L P.length ∧ D.N0 = (dsP L s P.length).length ∧ D.pk = k ∧ D.f0 = f ∧ D.wd = wd ∧ D.me = P.length ∧ D.up = up := by rw [hDe]; exact ⟨rfl, rfl, rfl, rfl, rfl, rfl, rfl, rfl, rfl⟩
   obtain ⟨d1, d2, d3, d4, d5, d6, d7, d8, d9⟩ := hD0; have hinv := hI.inv; have hxr := hI.xr; have hmr := hI.mr; have hpr := hI.pr; have hnew := hI.new; have hhom := hI.hom; rw [d1, d2, d3] at hinv; rw [d4] at hxr hmr hpr hnew hhom; rw [d3] at hnew hhom; rw [d6, d7, d8, d9] at hnew; rw [d8] at hhom; have hblk0 : ∀ q, f + wd ≤ q → ¬ blk L P.length q := fun q hq hb => by
    rw [← d8] at hb; have h1 := (hblk q q9).1 hb
    have h2 := (inK_lo kids f q (fun T hT => by have h := (hkg T hT).w.1; rw [erase_f] at h; exact h) h1).2
    omega
   have hres : kidsT s stop (AT.node k w wd A c kids) f x = (if k = 53 then countP s y.st y.mine else y.st, y.par) := by rw [hy]; simp only [kidsT]
   rw [hres]; by_cases k53 : k = 53
   ·rw [if_pos k53]
    refine ⟨X ++ y.mine, ?_, fun z hz => ?_, hpr, fun h => hI.p55 (by rw [d5]; exact h), fun j h1 h2 q hq => ?_, hhom⟩
    ·rw [← List.append_assoc]
     exact hinv.count y.mine (fun z hz => by have := hmr z hz; omega)
    ·rcases List.mem_append.1 hz with hz | hz
     ·exact hxr z hz
     ·exact hmr z hz
    ·rw [hnew j h1 h2 q hq, List.mem_append]
     have hb := hblk0 q hq; constructor
     ·rintro (⟨h3, h4 | ⟨h4, _⟩⟩ | ⟨_, h3⟩ | h3)
      ·exact .inl ⟨h3, .inl h4⟩
      ·exact .inl ⟨h3, .inr h4⟩
      ·exact absurd h3 hb
      ·exact .inr h3
     ·rintro (⟨h3, h4 | h4⟩ | h3)
      ·exact .inl ⟨h3, .inl h4⟩
      ·exact .inl ⟨h3, .inr ⟨h4, hq⟩⟩
      ·exact .inr (.inr h3)
   ·rw [if_neg k53]
    have hm0 := hI.m53 (by rw [d5]; exact k53)
    refine ⟨X, hinv, hxr, hpr, fun h => hI.p55 (by rw [d5]; exact h), fun j h1 h2 q hq => ?_, hhom⟩
    rw [hnew j h1 h2 q hq, hm0]; have hb := hblk0 q hq; constructor
    ·rintro (⟨h3, h4 | ⟨h4, _⟩⟩ | ⟨_, h3⟩ | h3)
     ·exact .inl ⟨h3, h4⟩
     ·cases h4
     ·exact absurd h3 hb
     ·exact .inr h3
    ·rintro (⟨h3, h4⟩ | h3)
     ·exact .inl ⟨h3, .inl h4⟩
     ·exact .inr (.inr h3)
theorem loop_law (cx : Cx L n) : ∀ (l : List AT) (D : Nd), NdOk L s D → ∀ (P Q : List Sn) (f : Int) (x : LS) (X : List Int), L = P ++ seenL l f D.me P.length ++ Q → (∀ y ∈ Q, (y.2.2 < P.length ∨ (P.length : Int) + nL l ≤ y.2.2) ∧ f + wdL l ≤ y.2.1) → D.me < P.length → D.f0 ≤ f → f + wdL l ≤ D.f0 + D.wd → goodL (zbr l) → tokL (zbr l) → (∀ q, f ≤ q → (blk L D.me q ↔ inK l f q)) → LI L s stop D P.length f x X →
  ∃ X', LI L s stop D (P.length + nL l) (f + wdL l) (loopL s stop D.pk l f x) X'
 | [], D, hD, P, Q, f, x, X, hL, hQ, hme, h0, hfe, hg, ht, hb, hI => by
  simp only [nL, wdL, loopL, Nat.add_zero, Int.add_zero]; exact ⟨X, hI⟩
 | T :: r, D, hD, P, Q, f, x, X, hL, hQ, hme, h0, hfe, hg, ht, hb, hI => by
  obtain ⟨hws, hwp, hkg⟩ := good_kids (T :: r) hg; simp only [zbr, goodL] at hg; have ht' := tokL_mem (T :: r) ht T List.mem_cons_self; simp only [zbr, tokL] at ht; simp only [seenL] at hL; simp only [nL] at hQ; simp only [wdL] at hQ hfe; have hw0 : ∀ U ∈ T :: r, 0 ≤ U.wd := fun U hU => by have h := (hkg U hU).w.1; rw [erase_f] at h; exact h
  have hT0 := hw0 T List.mem_cons_self; have hr0 : 0 ≤ wdL r := by
   have h1 := hwp (r.length + 1); have h2 := hwp 1; simp only [List.take_succ_cons, List.take_length, List.take_zero, wdL] at h1 h2; omega
  have hlo : ∀ q, inK r (f + T.wd) q → f + T.wd ≤ q := fun q h => (inK_lo r (f + T.wd) q (fun U hU => hw0 U (List.mem_cons_of_mem _ hU)) h).1
  have hsl : (seenT T f D.me P.length).length = nT T := zbK T _ _ _; obtain ⟨X1, h1⟩ := loop_step cx hD T P (seenL r (f + T.wd) D.me (P.length + nT T) ++ Q) f x X (fun _ => kids_law cx T) (by rw [hL]; simp only [List.append_assoc]) (fun y hy => by
    rcases List.mem_append.1 hy with hy | hy
    ·have h2 := seenL_up r (f + T.wd) D.me (P.length + nT T) q9 y hy
     obtain ⟨j, hj, hjy⟩ := List.mem_iff_getElem.1 hy; have h3 := seenL_at r (f + T.wd) D.me (P.length + nT T) hg.2 (by have := hD.pos; omega) q9 j y (by rw [List.getElem?_eq_getElem hj, hjy])
     refine ⟨?_, h3.2.2.1⟩
     rcases seenL_eq r (f + T.wd) D.me (P.length + nT T) q9 y hy with h4 | h4
     ·left; omega
     ·right; exact h4
    ·have := hQ y hy
     omega) hme h0 q9 hg.1 ht'.2 ht'.1 (fun h52 q q1 q2 => (hb q q1).2 (.inl ⟨h52, q1, q2⟩)) (fun h52 q q1 q2 h3 => by
    rcases (hb q q1).1 h3 with h4 | h4
    ·exact h52 h4.1
    ·have := hlo q h4; omega) hI
  have hPl : (P ++ seenT T f D.me P.length).length = P.length + nT T := by rw [List.length_append, hsl]
  obtain ⟨X2, h2⟩ := loop_law cx r D hD (P ++ seenT T f D.me P.length) Q (f + T.wd) _ X1 (by rw [hPl, hL]; simp only [List.append_assoc]; rfl) (fun y hy => by
    have := hQ y hy; rw [hPl]; omega) (by rw [hPl]; omega) q9 q9 hg.2 ht.2.2 (fun q hq => by
    rw [hb q q9]
    simp only [inK]; constructor
    ·rintro (h3 | h3)
     ·omega
     ·exact h3
    ·exact .inr) (by rw [hPl]; exact h1)
  rw [hPl] at h2; simp only [nL, wdL, loopL]; rw [show P.length + (nT T + nL r) = P.length + nT T + nL r by omega, show f + (T.wd + wdL r) = f + T.wd + wdL r by omega]
  exact ⟨X2, h2⟩
end
end
mutual
theorem seenT_so : ∀ (T : AT) (f up me : Int), goodT T.erase → 0 ≤ f → up < me → (seenT T f up me).Pairwise (fun a b => a.2.1 ≤ b.2.1)
 | .node k w wd A c kids, f, up, me, hg, hf, hu => by
  obtain ⟨_, hgl, _, _⟩ := good_node hg; simp only [seenT]; rw [List.pairwise_cons]; refine ⟨fun y hy => ?_, seenL_so kids f me (me + 1) hgl hf q9⟩
  obtain ⟨j, hj, hjy⟩ := List.mem_iff_getElem.1 hy; exact (seenL_at kids f me (me + 1) hgl hf q9 j y (by rw [List.getElem?_eq_getElem hj, hjy])).2.2.1
theorem seenL_so : ∀ (l : List AT) (f up me : Int), goodL (zbr l) → 0 ≤ f → up < me → (seenL l f up me).Pairwise (fun a b => a.2.1 ≤ b.2.1)
 | [], f, up, me, _, _, _ => by simp [seenL]
 | T :: r, f, up, me, hg, hf, hu => by
  simp only [zbr, goodL] at hg; have hT := hg.1.w; have hf2 : T.erase.f2 = T.wd := by rw [erase_f]
  rw [hf2] at hT; simp only [seenL]; rw [List.pairwise_append]; refine ⟨seenT_so T f up me hg.1 hf hu, seenL_so r (f + T.wd) up (me + nT T) hg.2 q9 q9, fun a ha b hb => ?_⟩
  obtain ⟨i, hi, hia⟩ := List.mem_iff_getElem.1 ha; obtain ⟨j, hj, hjb⟩ := List.mem_iff_getElem.1 hb; have h1 := seenT_at T f up me hg.1 hf hu i a (by rw [List.getElem?_eq_getElem hi, hia])
  have h2 := seenL_at r (f + T.wd) up (me + nT T) hg.2 q9 q9 j b (by rw [List.getElem?_eq_getElem hj, hjb])
  omega
end
mutual
theorem seenT_w6 : ∀ (T : AT) (f up me : Int), tokT T.erase → ∀ x ∈ seenT T f up me, x.1.k = 6 → 1 ≤ x.1.wd
 | .node k w wd A c kids, f, up, me, ht, x, hx => by
  simp only [AT.erase, tokT] at ht; simp only [seenT] at hx; intro h6
  rcases List.mem_cons.1 hx with rfl | hx
  ·exact ht.1 (by simp only [AT.k] at h6; omega)
  ·exact seenL_w6 kids f me (me + 1) ht.2.2 x hx h6
theorem seenL_w6 : ∀ (l : List AT) (f up me : Int), tokL (zbr l) → ∀ x ∈ seenL l f up me, x.1.k = 6 → 1 ≤ x.1.wd
 | [], f, up, me, ht, x, hx => by simp [seenL] at hx
 | T :: r, f, up, me, ht, x, hx => by
  simp only [zbr, tokL] at ht; simp only [seenL] at hx; rcases List.mem_append.1 hx with hx | hx
  ·exact seenT_w6 T f up me ht.2.1 x hx
  ·exact seenL_w6 r (f + T.wd) up (me + nT T) ht.2.2 x hx
end
def st0 : St := ⟨[], [], fun _ => [], [], []⟩
def endP (s : ByteArray) (stop : Int) (T : AT) : St := zbM (kidsT s stop T 0 (countP s (openP st0) [])).1
theorem scope_law (s : ByteArray) (stop : Int) (T : AT) (hg : goodT T.erase) (ht : tokT T.erase) (hk : T.k = 51) :
  (endP s stop T).ds = (findS (seenT T 0 (-1) 0) s (seenT T 0 (-1) 0).length).1.map outD ∧ (endP s stop T).bs = (findS (seenT T 0 (-1) 0) s (seenT T 0 (-1) 0).length).2.map (outU (findS (seenT T 0 (-1) 0) s (seenT T 0 (-1) 0).length).1) ∧ (endP s stop T).sh = if 0 ≤ stop ∧ stop < T.wd then visP (seenT T 0 (-1) 0) s stop else [] := by
 obtain ⟨L, hL⟩ : ∃ L, L = seenT T 0 (-1) 0 := ⟨_, rfl⟩; have hok := seen_ok T hg hk; rw [← hL] at hok; have cx : Cx L T.wd := ⟨hok, by rw [hL]; exact seenT_so T 0 (-1) 0 hg (Int.le_refl _) q9, by rw [hL]; exact seenT_w6 T 0 (-1) 0 ht⟩
 have hx : L[0]? = some (T, 0, -1) := by rw [hL]; obtain ⟨k, w, wd, A, c, kids⟩ := T; rfl
 have hH : homeK L ((0 : Nat) : Int) = 0 := by rw [homeK_step hok hx, if_pos (.inr hk)]; rfl
 have hlen : L.length = nT T := by rw [hL, zbK]
 have hinv : Inv L s stop 0 0 (countP s (openP st0) []) ([] :: []) (homeK L ((0 : Nat) : Int)) := by
  refine ⟨rfl, rfl, ⟨rfl, fun u => rfl, fun k hk => by simp [flat] at hk⟩, ?_, fun t r h u => ?_⟩
  ·rw [if_neg q9]; rfl
  ·simp only [countP, List.foldl_nil, openP, st0, List.cons.injEq] at h
   rw [← h.1]; refine ⟨Int.le_refl _, fun h => absurd h (Int.lt_irrefl _), ?_⟩
   rintro ⟨d, hd, _⟩
   simp [dsP, findS] at hd
 obtain ⟨X, i1, _⟩ := kids_law (s := s) (stop := stop) cx T [] [] 0 (-1) (countP s (openP st0) []) [] [] (by rw [hL]; simp) (fun y hy => by cases hy) q9 (Int.le_refl _) hg ht hinv (fun k hk => by simp [dsP, findS] at hk) (by
  show (0 : Int) + T.wd ≤ endS L (homeK L ((0 : Nat) : Int))
  rw [hH]; unfold endS; rw [show ((0 : Int)).toNat = 0 from rfl, hx]; simp) (fun h => q9)
 have hcl : ∀ y : St, (zbM y).ds = y.ds ∧ (zbM y).bs = y.bs ∧ (zbM y).sh = y.sh := fun y => by unfold zbM; split <;> exact ⟨rfl, rfl, rfl⟩
 obtain ⟨e1, e2, e3⟩ := hcl (kidsT s stop T 0 (countP s (openP st0) [])).1; have hp : ([] : List Sn).length + nT T = L.length := by rw [hlen]; simp
 rw [hp] at i1; rw [← hL]; refine ⟨by unfold endP; rw [e1]; exact i1.ds, by unfold endP; rw [e2]; exact i1.bs, ?_⟩
 unfold endP
 rw [e3, i1.sh, Int.zero_add]
end Go.Proofs.Ytobgkpnigjfhmaa.H
namespace Go.Proofs.Ytobgkpnigjfhmaa.H
mutual
def blank : AT → AT
 | .node k w wd _ _ kids => .node k w wd none 0 (blankL kids)
def blankL : List AT → List AT
 | [] => []
 | T :: r => blank T :: blankL r
end
def bS (x : Sn) : Sn := (blank x.1, x.2)
theorem blank_k (T : AT) : (blank T).k = T.k := by cases T; rfl
theorem blank_wd (T : AT) : (blank T).wd = T.wd := by cases T; rfl
mutual
theorem blank_nT : ∀ T : AT, nT (blank T) = nT T
 | .node k w wd A c kids => by simp only [blank, nT, blank_nL kids]
theorem blank_nL : ∀ l : List AT, nL (blankL l) = nL l
 | [] => rfl
 | T :: r => by simp only [blankL, nL, blank_nT T, blank_nL r]
end
mutual
theorem blank_seenT : ∀ (T : AT) (f up me : Int), seenT (blank T) f up me = (seenT T f up me).map bS
 | .node k w wd A c kids, f, up, me => by
  simp only [blank, seenT, List.map_cons, blank_seenL kids]
  rfl
theorem blank_seenL : ∀ (l : List AT) (f up me : Int), seenL (blankL l) f up me = (seenL l f up me).map bS
 | [], f, up, me => rfl
 | T :: r, f, up, me => by simp only [blankL, seenL, List.map_append, blank_seenT T, blank_seenL r, blank_wd, blank_nT]
end
mutual
theorem blank_eq : ∀ (T T' : AT), T.erase = T'.erase → blank T = blank T'
 | .node k w wd A c kids, .node k' w' wd' A' c' kids', h => by
  simp only [AT.erase] at h; injection h with h1 h2 h3 h4
  subst h1 h2 h3; simp only [blank, blankL_eq kids kids' h4]
theorem blankL_eq : ∀ (l l' : List AT), zbr l = zbr l' → blankL l = blankL l'
 | [], [], h => rfl
 | [], _ :: _, h => by simp [zbr] at h
 | _ :: _, [], h => by simp [zbr] at h
 | T :: r, T' :: r', h => by
  simp only [zbr] at h; injection h with h1 h2
  simp only [blankL, blank_eq T T' h1, blankL_eq r r' h2]
end
theorem homeN_b (L : List Sn) : ∀ m k, homeN (L.map bS) m k = homeN L m k
 | 0, k => rfl
 | m + 1, k => by
  simp only [homeN, List.getElem?_map]
  split
  ·rfl
  ·cases L[k.toNat]? with
   | none => rfl
   | some x => simp only [Option.map_some, bS, blank_k, homeN_b L m]
theorem endS_b (L : List Sn) (k : Int) : endS (L.map bS) k = endS L k := by
 unfold endS
 rw [List.getElem?_map]; cases L[k.toNat]? with
 | none => rfl
 | some x => simp only [Option.map_some, bS, blank_wd]
theorem kindS_b (L : List Sn) (k : Int) : kindS (L.map bS) k = kindS L k := by
 unfold kindS
 rw [List.getElem?_map]; cases L[k.toNat]? with
 | none => rfl
 | some x => simp only [Option.map_some, bS, blank_k]
theorem blocksS_b (L : List Sn) (i : Int) : zbH (L.map bS) i = zbH L i := by
 unfold zbH
 rw [List.filter_map, List.map_map]; have e1 : ((fun x : Sn => decide (x.2.2 = i) && decide (x.1.k = 52)) ∘ bS) = fun x : Sn => decide (x.2.2 = i) && decide (x.1.k = 52) := by funext ⟨⟨k, w, wd, A, c, kids⟩, f, u⟩; rfl
 rw [e1]; refine List.map_congr_left fun x _ => ?_
 simp only [Function.comp, bS, blank_wd]
theorem nmS_b (s : ByteArray) (x : Sn) : nmS s (bS x) = nmS s x := by simp only [nmS, bS, blank_wd]
theorem mkD_b (L : List Sn) (s : ByteArray) (ds : List Dc) (x y : Sn) (u : Int) : mkD (L.map bS) s ds (bS x) (bS y) u = mkD L s ds x y u := by
 have hh : homeK (L.map bS) (bS y).2.2 = homeK L y.2.2 := homeN_b L _ _; have h1 : (bS x).2 = x.2 := rfl; have h2 : (bS y).2 = y.2 := rfl; unfold mkD
 simp only; rw [nmS_b, hh, endS_b, h1, h2, kindS_b, blocksS_b, show (bS x).1.wd = x.1.wd from blank_wd _, show (bS y).1.wd = y.1.wd from blank_wd _, show (bS y).1.k = y.1.k from blank_k _]
theorem stepD_b (L : List Sn) (s : ByteArray) (x : Sn) (r : List Dc × List Us) : stepD (L.map bS) s (bS x) r = stepD L s x r := by
 unfold stepD
 have h1 : (bS x).1.k = x.1.k := blank_k _; have h2 : (bS x).2 = x.2 := rfl; have h3 : (bS x).1.wd = x.1.wd := blank_wd _; rw [h1, h2, h3, List.getElem?_map]; cases L[x.2.2.toNat]? with
 | none => rfl
 | some y =>
  simp only [Option.map_some, mkD_b, nmS_b]; have h4 : (bS y).1.k = y.1.k := blank_k _; rw [h4]
theorem findS_b (L : List Sn) (s : ByteArray) (i : Nat) : findS (L.map bS) s i = findS L s i := by
 unfold findS
 rw [← List.map_take, List.foldl_map]
 congr 1
 funext r x
 exact stepD_b L s x r
theorem find_erase (s : ByteArray) {T T' : AT} (h : T.erase = T'.erase) : findS (seenT T 0 (-1) 0) s (seenT T 0 (-1) 0).length = findS (seenT T' 0 (-1) 0) s (seenT T' 0 (-1) 0).length := by
 have e1 := findS_b (seenT T 0 (-1) 0) s (seenT T 0 (-1) 0).length; have e2 := findS_b (seenT T' 0 (-1) 0) s (seenT T' 0 (-1) 0).length; rw [← blank_seenT] at e1 e2; have e3 : (seenT T 0 (-1) 0).length = (seenT T' 0 (-1) 0).length := by rw [zbK, zbK, nT_eq, nT_eq, h]
 rw [← e1, ← e2, blank_eq T T' h, e3]
theorem of20_erase (s : ByteArray) {T T' : AT} (h : T.erase = T'.erase) : of20 s T = of20 s T' := by
 unfold of20
 rw [h, find_erase s h]
theorem visP_erase (s : ByteArray) (q : Int) {T T' : AT} (h : T.erase = T'.erase) : visP (seenT T 0 (-1) 0) s q = visP (seenT T' 0 (-1) 0) s q := by
 unfold visP dsP
 rw [find_erase s h]
end Go.Proofs.Ytobgkpnigjfhmaa.H
namespace Go.Proofs.Ytobgkpnigjfhmaa.H
open Go.RowKit Go.Proofs.YtobgkpnigjfhmaaW.PrintWords Go.Proofs.YtobgkpnigjfhmaaW.PrintLast Go.Proofs.YtobgkpnigjfhmaaW.PrintMore
abbrev nodeW (t : S24) (A : Option Addr) (c : Nat) : Value := .agg #[.int .u8 t.f0, .int .u8 t.f1, .int .i64 t.f2, .slice A t.f3.length c]
def RSelf (t : S24) : Prop := ∀ (A B : Option Addr) (cA cB : Nat) (W : World), t.f3.length ≤ cA → t.f3.length ≤ cB → Kd.C k24 W A t.f3.length t.f3 → Kd.C k24 W B t.f3.length t.f3 →
  Calls Try.prog 18 #[nodeW t A cA, nodeW t B cB] W fun e W' => e = .returned (.bool true) ∧ Below W.heap.size W W'
theorem mixS : Try.prog.follows .mixedOrders = true := by kernel_rfl
theorem rself_step (k w wd : Int) (l : List S24) (hl : l.length ≤ 1000000000) (hel : ∀ (i : Nat) (h1 : i < l.length), RSelf l[i]) : RSelf ⟨k, w, wd, l⟩ := by
 intro A B cA cB W hcA hcB hA hB
 have hu := Try.underlying24; obtain ⟨X1, hX1⟩ : ∃ X, X = W.alloc (.cells #[.int .u8 k, .int .u8 w, .int .i64 wd, .slice A l.length cA] 24) := ⟨_, rfl⟩; obtain ⟨X, hX⟩ : ∃ X, X = X1.alloc (.cells #[.int .u8 k, .int .u8 w, .int .i64 wd, .slice B l.length cB] 24) := ⟨_, rfl⟩; have hs1 : X1.heap.size = W.heap.size + 1 := by rw [hX1]; simp
 have b1 : Below W.heap.size W X1 := by rw [hX1]; exact zad (Below.refl _ _) _
 have b2 : Below X1.heap.size X1 X := by rw [hX]; exact zad (Below.refl _ _) _
 have HK1 := J (show X.heap[W.heap.size]? = some (.cells #[.int .u8 k, .int .u8 w, .int .i64 wd, .slice A l.length cA] 24 (0, 0)) from zaG (by rw [hX1]; exact heap_alloc_new _ _) b2)
 have HK2 := J (show X.heap[W.heap.size + 1]? = some (.cells #[.int .u8 k, .int .u8 w, .int .i64 wd, .slice B l.length cB] 24 (0, 0)) by rw [hX, ← hs1]; exact heap_alloc_new _ _)
 have HBX := J (zak b1 b2); have HA := J (Kd.za1 hA HBX.out); have HB := J (Kd.za1 hB HBX.out); have HEL := J hel; have HLL := J hl; clear hA hB hel hs1 b1 b2; have HCELL := J (fun (wr : World) (hw : Below X.heap.size X wr) => (show (wr.cell? ⟨W.heap.size, 0, none⟩ = some (.int .u8 k) ∧ wr.cell? ⟨W.heap.size, 1, none⟩ = some (.int .u8 w) ∧ wr.cell? ⟨W.heap.size, 2, none⟩ = some (.int .i64 wd) ∧ wr.cell? ⟨W.heap.size, 3, none⟩ = some (.slice A l.length cA)) ∧ (wr.cell? ⟨W.heap.size + 1, 0, none⟩ = some (.int .u8 k) ∧ wr.cell? ⟨W.heap.size + 1, 1, none⟩ = some (.int .u8 w) ∧ wr.cell? ⟨W.heap.size + 1, 2, none⟩ = some (.int .i64 wd) ∧ wr.cell? ⟨W.heap.size + 1, 3, none⟩ = some (.slice B l.length cB)) from by
  have h1 := zaG HK1.out hw; have h2 := zaG HK2.out hw; have a0 := zaf h1 0; have a1 := zaf h1 1; have a2 := zaf h1 2; have a3 := zaf h1 3; have c0 := zaf h2 0; have c1 := zaf h2 1; have c2 := zaf h2 2; have c3 := zaf h2 3; simp at a0 a1 a2 a3 c0 c1 c2 c3; exact ⟨⟨a0, a1, a2, a3⟩, ⟨c0, c1, c2, c3⟩⟩))
 obtain ⟨⟨a0, a1, a2, a3⟩, ⟨c0, c1, c2, c3⟩⟩ := HCELL.out X (Below.refl _ _); unfold nodeW
 simp only; go_enter Try.func18, Try.ntmps18
 go_upto_region 1 with (fail)
 change Code.wp Try.prog _ _ _ ((W.alloc (.cells #[.int .u8 k, .int .u8 w, .int .i64 wd, .slice A l.length cA] 24)).alloc (.cells #[.int .u8 k, .int .u8 w, .int .i64 wd, .slice B l.length cB] 24))
 rw [← hX1, ← hX]; clear hX hX1; have d0 : (k != k) = false := by simp
 have d1 : (w != w) = false := by simp
 have d2 : (wd != wd) = false := by simp
 have d3 : ((l.length : Int) != (l.length : Int)) = false := by simp
 go_wp2
 clear d0 d1 d2 d3 a0 a1 a2 a3 c0 c1 c2 c3; go_loopg [5] l.length (fun kq v5 wr => ∃ i : Nat, v5 = .int .i64 i ∧ i ≤ l.length ∧ zaa (kq = l.length - i) ∧ zaa (Below X.heap.size X wr))
 case atStart => exact ⟨0, rfl, Nat.zero_le _, ⟨rfl⟩, ⟨Below.refl _ _⟩⟩
 case round =>
  obtain ⟨i, rfl, hi, HK, HW⟩ := hrel; have hll := HLL.out; obtain ⟨⟨_, _, _, a3⟩, ⟨_, _, _, c3⟩⟩ := HCELL.out wr HW.out; by_cases hlt : i < l.length
  case neg =>
   go_wp2
   go_ret
   exact ⟨rfl, zak HBX.out HW.out⟩
  have hA := Kd.za1 HA.out HW.out; have hB := Kd.za1 HB.out HW.out; obtain ⟨ad, A3, g3c, rfl, g0, g1, g2, g3, gl, gC⟩ := at_T24 hA (i : Int) q9 q9
  obtain ⟨bd, B3, e3, rfl, b0, b1, b2, b3, bl, bC⟩ := at_T24 hB (i : Int) q9 q9
  rw [Int.toNat_natCast] at g0 g1 g2 g3 b0 b1 b2 b3; have hrd : za6 l (i : Int) = l[i] := by
   unfold za6
   rw [Int.toNat_natCast, List.getD_eq_getElem?_getD, List.getElem?_eq_getElem hlt]
   rfl
  rw [hrd] at g0 g1 g2 g3 gl gC b0 b1 b2 b3 bl bC; have HT := J (HEL.out i hlt); obtain ⟨t, ht⟩ : ∃ t, t = l[i] := ⟨_, rfl⟩; rw [← ht] at g0 g1 g2 g3 gl gC HT b0 b1 b2 b3 bl bC; clear ht hrd hA hB a3 c3; have HSX := J (fun (w' : World) (hw : Below wr.heap.size wr w') => (show (w'.cell? ⟨W.heap.size, 3, none⟩ = some (.slice (some ad) l.length cA) ∧ w'.cell? ⟨W.heap.size + 1, 3, none⟩ = some (.slice (some bd) l.length cB)) ∧ (w'.cell? (ad.add (i * 4)) = some (.int .u8 t.f0) ∧ w'.cell? ⟨(ad.add (i * 4)).block, (ad.add (i * 4)).off + 1, none⟩ = some (.int .u8 t.f1) ∧ w'.cell? ⟨(ad.add (i * 4)).block, (ad.add (i * 4)).off + 2, none⟩ = some (.int .i64 t.f2) ∧ w'.cell? ⟨(ad.add (i * 4)).block, (ad.add (i * 4)).off + 3, none⟩ = some (.slice A3 t.f3.length g3c)) ∧ (w'.cell? (bd.add (i * 4)) = some (.int .u8 t.f0) ∧ w'.cell? ⟨(bd.add (i * 4)).block, (bd.add (i * 4)).off + 1, none⟩ = some (.int .u8 t.f1) ∧ w'.cell? ⟨(bd.add (i * 4)).block, (bd.add (i * 4)).off + 2, none⟩ = some (.int .i64 t.f2) ∧ w'.cell? ⟨(bd.add (i * 4)).block, (bd.add (i * 4)).off + 3, none⟩ = some (.slice B3 t.f3.length e3)) from by
   obtain ⟨⟨_, _, _, x3⟩, ⟨_, _, _, y3⟩⟩ := HCELL.out w' (zak HW.out hw); exact ⟨⟨x3, y3⟩, ⟨(hw.cell (World.block_lt_of_cell? wr _ g0)).trans g0, (hw.cell (World.block_lt_of_cell? wr _ g1)).trans g1, (hw.cell (World.block_lt_of_cell? wr _ g2)).trans g2, (hw.cell (World.block_lt_of_cell? wr _ g3)).trans g3⟩, ⟨(hw.cell (World.block_lt_of_cell? wr _ b0)).trans b0, (hw.cell (World.block_lt_of_cell? wr _ b1)).trans b1, (hw.cell (World.block_lt_of_cell? wr _ b2)).trans b2, (hw.cell (World.block_lt_of_cell? wr _ b3)).trans b3⟩⟩))
  have HCALL := J (fun (w' : World) (hw : Below wr.heap.size wr w') => HT.out A3 B3 g3c e3 w' gl bl (Kd.za1 gC hw) (Kd.za1 bC hw))
  clear g0 g1 g2 g3 gl gC b0 b1 b2 b3 bl bC HT; obtain ⟨⟨_, _, _, a3⟩, ⟨_, _, _, c3⟩⟩ := HCELL.out wr HW.out; go_upto_region 6 with (fail)
  clear a3 c3; obtain ⟨Y, hY⟩ : ∃ Y : World, Y = wr.drew := ⟨_, rfl⟩; have HBY := J (show Below wr.heap.size wr Y by rw [hY]; exact (Below.refl _ _).drew)
  refine wp_region_noPanic (zba [0, 1, 2, 3, 4, 5, 6, 7, 8, 9, 10, 11] (fun W' => (W'.cell? ⟨W.heap.size, 3, none⟩ = some (.slice (some ad) l.length cA) ∧ W'.cell? ⟨W.heap.size + 1, 3, none⟩ = some (.slice (some bd) l.length cB)) ∧ (W'.cell? (ad.add (i * 4)) = some (.int .u8 t.f0) ∧ W'.cell? ⟨(ad.add (i * 4)).block, (ad.add (i * 4)).off + 1, none⟩ = some (.int .u8 t.f1) ∧ W'.cell? ⟨(ad.add (i * 4)).block, (ad.add (i * 4)).off + 2, none⟩ = some (.int .i64 t.f2) ∧ W'.cell? ⟨(ad.add (i * 4)).block, (ad.add (i * 4)).off + 3, none⟩ = some (.slice A3 t.f3.length g3c)) ∧ (W'.cell? (bd.add (i * 4)) = some (.int .u8 t.f0) ∧ W'.cell? ⟨(bd.add (i * 4)).block, (bd.add (i * 4)).off + 1, none⟩ = some (.int .u8 t.f1) ∧ W'.cell? ⟨(bd.add (i * 4)).block, (bd.add (i * 4)).off + 2, none⟩ = some (.int .i64 t.f2) ∧ W'.cell? ⟨(bd.add (i * 4)).block, (bd.add (i * 4)).off + 3, none⟩ = some (.slice B3 t.f3.length e3))) mixS ?_)
  rw [← hY]; clear hY; have HS0 := J (HSX.out Y HBY.out); refine zah 0 rfl HS0.out (fun _ h => qP) ?_
  simp only [Act.put, zai]; refine zah 1 rfl HS0.out (fun _ h => qP) ?_
  simp only [Act.put, zai]; refine zah 2 rfl HS0.out (fun _ h => qP) ?_
  simp only [Act.put, zai]; refine zah 3 rfl HS0.out (fun _ h => qP) ?_
  simp only [Act.put, zai]; refine zah 4 rfl HS0.out (fun _ h => qP) ?_
  simp only [Act.put, zai]; refine zah 5 rfl HS0.out (fun _ h => qP) ?_
  simp only [Act.put, zai]; refine zah 6 rfl HS0.out (fun _ h => qP) ?_
  simp only [Act.put, zai]; refine zah 7 rfl HS0.out (fun _ h => qP) ?_
  simp only [Act.put, zai]; refine zah 8 rfl HS0.out (fun _ h => qP) ?_
  simp only [Act.put, zai]; refine zah 9 rfl HS0.out (fun _ h => qP) ?_
  simp only [Act.put, zai]; refine zaI (i := 10) rfl qb (fun K hK => ?_)
  have hcall := HCALL.out Y HBY.out; unfold nodeW at hcall
  go_simp
  refine hcall.mono ?_
  rintro e w5 ⟨rfl, hb5⟩
  have HB5 := J (zak HBY.out hb5); have HS5 := J (HSX.out w5 HB5.out); clear hcall hb5; refine hK.out _ _ (fun _ => HS5.out) (fun _ => ?_)
  clear hK K; try simp only [Act.put, zai]
  refine zah 11 rfl HS5.out (fun _ h => qP) ?_
  simp only [Act.put, zai]; refine za3 qb (NoPanic.normal ?_) _
  go_wp2
  go_roundg (l.length - (i + 1))
  case measure => have := HK.out; omega
  case rel => exact ⟨i + 1, qk, q9, ⟨rfl⟩, ⟨zak HW.out (zak HB5.out (Below.refl _ _))⟩⟩
theorem rself_calls (z : Nat) : ∀ t : S24, SizeOf.sizeOf t < z → tsize t ≤ 1000000000 → RSelf t := by
 induction z with
 | zero => intro t h; exact absurd h (Nat.not_lt_zero _)
 | succ z ih =>
  rintro ⟨k, w, wd, l⟩ hz hs
  simp only [tsize] at hs; refine rself_step k w wd l (by have := length_lsize l; omega) fun i h1 => ih l[i] ?_ ?_
  ·have := List.sizeOf_lt_of_mem (List.getElem_mem h1)
   simp only [S24.mk.sizeOf_spec] at hz; omega
  ·have : tsize l[i] ≤ lsize l := by
    clear ih hz hs
    induction l generalizing i with
    | nil => exact absurd h1 (Nat.not_lt_zero _)
    | cons x r ih =>
     simp only [lsize]; cases i with
     | zero => simp
     | succ i =>
      have := ih i (by simpa using h1)
      simp only [List.getElem_cons_succ]; omega
   omega
theorem rnames_calls (A1 A2 A3 A4 : Option Addr) (c1 c2 c3 c4 : Nat) (ds : List S62) (bs : List S95) (W : World) (h1 : Kd.C k62 W A1 ds.length ds) (h2 : Kd.C k95 W A2 bs.length bs) (h3 : Kd.C k62 W A3 ds.length ds) (h4 : Kd.C k95 W A4 bs.length bs) (hn : ds.length + bs.length ≤ 1000000) :
  Calls Try.prog 17 #[.agg #[.slice A1 ds.length c1, .slice A2 bs.length c2], .agg #[.slice A3 ds.length c3, .slice A4 bs.length c4]] W fun e W' => e = .returned (.bool true) ∧ Below W.heap.size W W' := by
 obtain ⟨X1, hX1⟩ : ∃ V, V = W.alloc (.cells #[.slice A1 ds.length c1, .slice A2 bs.length c2] 47) := ⟨_, rfl⟩; obtain ⟨X, hX⟩ : ∃ V, V = X1.alloc (.cells #[.slice A3 ds.length c3, .slice A4 bs.length c4] 47) := ⟨_, rfl⟩; have hs1 : X1.heap.size = W.heap.size + 1 := by rw [hX1]; simp
 have b1 : Below W.heap.size W X1 := by rw [hX1]; exact zad (Below.refl _ _) _
 have b2 : Below X1.heap.size X1 X := by rw [hX]; exact zad (Below.refl _ _) _
 have HBX := J (show Below W.heap.size W X from b1.trans (b2.mono b1.size))
 have HK1 := J (show X.heap[W.heap.size]? = some (.cells #[.slice A1 ds.length c1, .slice A2 bs.length c2] 47 (0, 0)) from zaG (by rw [hX1]; exact heap_alloc_new _ _) b2)
 have HK2 := J (show X.heap[W.heap.size + 1]? = some (.cells #[.slice A3 ds.length c3, .slice A4 bs.length c4] 47 (0, 0)) by rw [hX, ← hs1]; exact heap_alloc_new _ _)
 have H1 := J (Kd.za1 h1 HBX.out); have H2 := J (Kd.za1 h2 HBX.out); have H3 := J (Kd.za1 h3 HBX.out); have H4 := J (Kd.za1 h4 HBX.out); have HN := J hn; have hum := Try.underlying47; have hud := Try.underlying62; have hub := Try.underlying95; have hus := Try.underlying60; clear h1 h2 h3 h4 hn hs1 b1 b2; have HCELL := J (fun (w : World) (hw : Below X.heap.size X w) => (show (w.cell? ⟨W.heap.size, 0, none⟩ = some (.slice A1 ds.length c1) ∧ w.cell? ⟨W.heap.size, 1, none⟩ = some (.slice A2 bs.length c2)) ∧ w.cell? ⟨W.heap.size + 1, 0, none⟩ = some (.slice A3 ds.length c3) ∧ w.cell? ⟨W.heap.size + 1, 1, none⟩ = some (.slice A4 bs.length c4) from by
  have g1 := zaG HK1.out hw; have g2 := zaG HK2.out hw; have a0 := zaf g1 0; have a1 := zaf g1 1; have d0 := zaf g2 0; have d1 := zaf g2 1; simp at a0 a1 d0 d1; exact ⟨⟨a0, a1⟩, d0, d1⟩))
 obtain ⟨⟨a0, a1⟩, d0, d1⟩ := HCELL.out X (Below.refl _ _); go_enter Try.func17, Try.ntmps17
 go_upto_region 1 with (fail)
 change Code.wp Try.prog _ _ _ ((W.alloc (.cells #[.slice A1 ds.length c1, .slice A2 bs.length c2] 47)).alloc (.cells #[.slice A3 ds.length c3, .slice A4 bs.length c4] 47))
 rw [← hX1, ← hX]; clear hX hX1; have e1 : ((ds.length : Int) != (ds.length : Int)) = false := by simp
 have e2 : ((bs.length : Int) != (bs.length : Int)) = false := by simp
 go_wp2
 clear e1 e2 a0 a1 d0 d1; go_loopg [5] ds.length (fun kq v5 wr => ∃ i : Nat, v5 = .int .i64 i ∧ i ≤ ds.length ∧ zaa (kq = ds.length - i) ∧ zaa (Below X.heap.size X wr))
 case atStart => exact ⟨0, rfl, Nat.zero_le _, ⟨rfl⟩, ⟨Below.refl _ _⟩⟩
 case round =>
  obtain ⟨i, rfl, hi, HK, HW⟩ := hrel; have hn := HN.out; obtain ⟨⟨a0, a1⟩, d0, d1⟩ := HCELL.out wr HW.out; by_cases hlt : i < ds.length
  ·obtain ⟨ad, eA, p0, p1, p2, p3⟩ := at_T62 (Kd.za1 H1.out HW.out) (i : Int) q9 q9
   obtain ⟨bd, eB, q0, q1, q2, q3⟩ := at_T62 (Kd.za1 H3.out HW.out) (i : Int) q9 q9
   subst eA; subst eB; rw [Int.toNat_natCast] at p0 p1 p2 p3 q0 q1 q2 q3; obtain ⟨⟨⟨x0, x1⟩, x2, x3⟩, hx⟩ : ∃ x, x = rd_T62 ds (i : Int) := ⟨_, rfl⟩; rw [← hx] at p0 p1 p2 p3 q0 q1 q2 q3; clear hx; go_upto_region 6 with (fail)
   go_quiet (fail)
   go_wp2
   go_roundg (ds.length - (i + 1))
   case measure => have := HK.out; omega
   case rel => exact ⟨i + 1, qk, q9, ⟨rfl⟩, ⟨HW.out.trans ⟨rfl, rfl, rfl, Nat.le_refl _, fun _ _ => rfl⟩⟩⟩
  ·have hie : i = ds.length := by omega
   clear hie; go_wp2
   obtain ⟨wo, rfl⟩ : ∃ w_ : World, w_ = wr := ⟨_, rfl⟩; clear a0 a1 d0 d1; go_loopg [6] bs.length (fun kq v6 wr => ∃ j : Nat, v6 = .int .i64 j ∧ j ≤ bs.length ∧ zaa (kq = bs.length - j) ∧ zaa (Below X.heap.size X wr))
   case atStart => exact ⟨0, rfl, Nat.zero_le _, ⟨rfl⟩, HW⟩
   case round =>
    obtain ⟨j, rfl, hj, HK2', HW2⟩ := hrel; obtain ⟨⟨a0, a1⟩, d0, d1⟩ := HCELL.out wr HW2.out; by_cases hlt2 : j < bs.length
    ·obtain ⟨ad, eA, p0, p1, p2⟩ := at_T95 (Kd.za1 H2.out HW2.out) (j : Int) q9 q9
     obtain ⟨bd, eB, q0, q1, q2⟩ := at_T95 (Kd.za1 H4.out HW2.out) (j : Int) q9 q9
     subst eA; subst eB; rw [Int.toNat_natCast] at p0 p1 p2 q0 q1 q2; obtain ⟨⟨⟨x0, x1⟩, x2⟩, hx⟩ : ∃ x, x = rd_T95 bs (j : Int) := ⟨_, rfl⟩; rw [← hx] at p0 p1 p2 q0 q1 q2; clear hx; go_upto_region 11 with (fail)
     go_quiet (fail)
     go_wp2
     go_roundg (bs.length - (j + 1))
     case measure => have := HK2'.out; omega
     case rel => exact ⟨j + 1, qk, q9, ⟨rfl⟩, ⟨HW2.out.trans ⟨rfl, rfl, rfl, Nat.le_refl _, fun _ _ => rfl⟩⟩⟩
    ·go_wp2
     go_ret
     exact ⟨rfl, HBX.out.trans (HW2.out.mono HBX.out.size)⟩
end Go.Proofs.Ytobgkpnigjfhmaa.H
