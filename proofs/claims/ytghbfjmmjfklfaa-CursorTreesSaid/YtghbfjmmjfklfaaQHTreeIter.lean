/- The iterators over a tree: tree.all and tree.Walk hand back functions that tell all nodes in order. -/
import Derived.RangeFuncNested
import Derived.RangeFuncBound
import Derived.RangeFuncCalls
import Derived.RangeFuncLeaves
import Derived.Shelf.Abstract
import Derived.Shelf.RegionOpen
import Derived.WalkKit
import Derived.OwnWalkIn
import Derived.TacticsInMore
import Derived.LoopNIn
import Derived.LoopIn
import Derived.Sort.LoopGhostIn
import Derived.Laws.EntriesVeiled
import Derived.Test.YtghbfjmmjfklfaaQJ9
import Derived.Test.YtghbfjmmjfklfaaQHTreeAt
import Derived.Test.YtghbfjmmjfklfaaQHRange
set_option linter.unusedVariables false
set_option linter.unusedSimpArgs false
namespace Go.Proofs.Ytghbfjmmjfklfaa.H
open Go.RowKit Go.Shelf Go.Proofs.YtghbfjmmjfklfaaW.PrintWords Go.Proofs.YtghbfjmmjfklfaaW.PrintLast Go.Proofs.YtghbfjmmjfklfaaW.PrintMore
attribute [local go_sem] Oper.semAt_some
def fr (bx : List Nat) (W : World) (k : Nat) : Prop := ∃ b, b ∈ bx ∧ ∃ v, W.cell? ⟨b, 0, none⟩ = some v ∧ v.ownBlock = some k
def Valid (bx : List Nat) (W : World) : Prop := ∀ k, fr bx W k → k < W.heap.size
theorem fr.below {bx : List Nat} {B : Nat} (hbx : ∀ b ∈ bx, b < B) {W W1 : World} (hB : B ≤ W.heap.size) (h : Below W.heap.size W W1) {k : Nat} (hf : fr bx W1 k) : fr bx W k := by
  obtain ⟨b, hb, v, hv, ho⟩ := hf
  have hlt := hbx b hb
  exact ⟨b, hb, v, by rw [← h.cell (p := ⟨b, 0, none⟩) (show b < W.heap.size by omega)]; exact hv, ho⟩
structure Kp (n0 B : Nat) (bx : List Nat) (W W' : World) : Prop where
  low : Below n0 W W'
  high : ∀ (k : Nat) (cs : Array Value) (t : TypeId) (fz : Nat × Nat), B ≤ k → ¬ fr bx W k → W.heap[k]? = some (.cells cs t fz) → W'.heap[k]? = some (.cells cs t fz)
  own : ∀ k, fr bx W' k → fr bx W k ∨ W.heap.size ≤ k
  rest : ∀ (k : Nat) (o : Obj), B + 2 ≤ k → o.isCells = false → W.heap[k]? = some o → W'.heap[k]? = some o
theorem Kp.refl (n0 B : Nat) (bx : List Nat) (W : World) : Kp n0 B bx W W := ⟨Below.refl _ _, fun _ _ _ _ _ _ h => h, fun _ h => .inl h, fun _ _ _ _ h => h⟩
theorem Kp.notfr {n0 B : Nat} {bx : List Nat} {W W' : World} (h : Kp n0 B bx W W') {k : Nat} (hk : k < W.heap.size) (hn : ¬ fr bx W k) : ¬ fr bx W' k := fun hf => (h.own k hf).elim hn (fun h => by omega)
theorem Kp.trans {n0 B : Nat} {bx : List Nat} {W W1 W2 : World} (h : Kp n0 B bx W W1) (k : Kp n0 B bx W1 W2) : Kp n0 B bx W W2 :=
  ⟨h.low.trans k.low, fun q cs t fz hq hn hc => k.high q cs t fz hq (h.notfr (blk_lt hc) hn) (h.high q cs t fz hq hn hc), fun q hq => (k.own q hq).elim (h.own q) (fun h2 => .inr (Nat.le_trans h.low.size h2)), fun q o hq hc hh => k.rest q o hq hc (h.rest q o hq hc hh)⟩
theorem Kp.of_below {n0 B : Nat} {bx : List Nat} (hbx : ∀ b ∈ bx, b < B) {W W1 : World} (hn : n0 ≤ W.heap.size) (hB : B ≤ W.heap.size) (h : Below W.heap.size W W1) : Kp n0 B bx W W1 := ⟨h.mono hn, fun k cs t fz _ _ hc => (h.block k (blk_lt hc)).trans hc, fun k hf => .inl (fr.below hbx hB h hf), fun k o _ _ hc => (h.block k (blk_lt hc)).trans hc⟩
theorem below_putObj {n k : Nat} (W : World) (o : Obj) (h : n ≤ k) : Below n W (W.putObj k o) := ⟨rfl, rfl, rfl, by simp, fun q hq => World.putObj_heap_other (by omega)⟩
theorem Kp.record {n0 B : Nat} {bx : List Nat} (hbx : ∀ b ∈ bx, b < B) (hn : n0 ≤ B) (W : World) (o o' : Obj) (h : W.heap[B + 1]? = some o) (hc : o.isCells = false) : Kp n0 B bx W (W.putObj (B + 1) o') := by
  refine ⟨below_putObj W o' (by omega), fun k cs t fz hk _ hcs => ?_, fun k hf => .inl ?_, fun k q hk _ hq => ?_⟩
  · by_cases e : k = B + 1
    · subst e
      rw [h] at hcs
      cases hcs
      cases hc
    · exact (World.putObj_heap_other e).trans hcs
  · obtain ⟨b, hb, v, hv, ho⟩ := hf
    have hlt := hbx b hb
    refine ⟨b, hb, v, ?_, ho⟩
    rw [← (below_putObj W o' (Nat.le_refl (B + 1))).cell (p := ⟨b, 0, none⟩) (show b < B + 1 by omega)]
    exact hv
  · exact (World.putObj_heap_other (by omega)).trans hq
mutual
/-- Nodes in order: where each begins, how many are above it. -/
def AT.pre : AT → Int → Int → List (AT × Int × Int)
  | .node k w wd A c kids, f, d => (.node k w wd A c kids, f, d) :: preL kids f d
def preL : List AT → Int → Int → List (AT × Int × Int)
  | [], _, _ => []
  | T :: r, f, d => T.pre f (wrap64 (d + 1)) ++ preL r (wrap64 (f + T.wd)) d
end
def seenV (x : AT × Int × Int) : Value := .agg #[.int .u8 x.1.k, .int .u8 x.1.w, .int .i64 x.1.wd, .slice x.1.A x.1.kids.length x.1.c, .int .i64 x.2.1, .int .i64 (wrap64 (x.2.1 + x.1.wd)), .int .i64 x.2.2]
abbrev Told (W0 : World) := { x : AT × Int × Int // AtT W0 x.1 }
abbrev downV (yb db : Nat) : Value := .func (.func 75) #[] #[.pointer (some ⟨yb, 0, none⟩), .pointer (some ⟨db, 0, none⟩)]
section
variable (W0 : World) (n0 B : Nat) (bx : List Nat) (l : Nat) (Sp : List (Told W0) → Prop) (J Jx : List (Told W0) → World → Prop)
def DownPost (pre : List (Told W0)) (xs : List (AT × Int × Int)) (W : World) (e : Ending) (W' : World) : Prop :=
  (e = .returned (.bool true) ∧ Kp n0 B bx W W' ∧ W.heap.size ≤ W'.heap.size ∧ ∃ ys : List (Told W0), ys.map (·.1) = xs ∧ J (pre ++ ys) W') ∨ (e = .returned (.bool false) ∧ ∃ ys : List (Told W0), ys.map (·.1) <+: xs ∧ Jx (pre ++ ys) W')
variable (hn0 : n0 = W0.heap.size) (hB : n0 ≤ B) (hbx : ∀ b ∈ bx, b < B) (hJV : ∀ s W, J s W → Valid bx W)
  (hJ : ∀ s (W W' : World), B ≤ W.heap.size → J s W → Below W.heap.size W W' → J s W')
  (hY : ∀ m pre x W, J pre W → Sp (pre ++ [x]) → YieldAt Fence.wide m Try.prog l #[seenV x.1] W fun e W' =>
      (e = .returned (.bool true) ∧ J (pre ++ [x]) W' ∧ Kp n0 B bx W W') ∨ (e = .returned (.bool false) ∧ Jx (pre ++ [x]) W' ∧ Kp n0 B bx W W'))
include hn0 hB hbx hJV hJ hY
set_option maxHeartbeats 4000000 in
set_option maxRecDepth 100000 in
theorem down_in (z : Nat) : ∀ (T : AT), SizeOf.sizeOf T < z → AtT W0 T → ∀ (f d : Int) (n : Nat) (pre : List (Told W0)) (W : World) (yb db : Nat), Below n0 W0 W → B ≤ W.heap.size → B ≤ yb → B ≤ db → ¬ fr bx W yb → ¬ fr bx W db → W.heap[yb]? = some (one1 (.func (.yield l) #[] #[]) 127) → W.heap[db]? = some (one1 (downV yb db) 128) →
    J pre W → (∀ ys : List (Told W0), ys.map (·.1) <+: T.pre f d → Sp (pre ++ ys)) →
    CallsIn Fence.wide n Try.prog 75 #[T.val, .int .i64 f, .int .i64 d, .pointer (some ⟨yb, 0, none⟩), .pointer (some ⟨db, 0, none⟩)] W (DownPost W0 n0 B bx J Jx pre (T.pre f d) W) := by
  induction z with
  | zero => intro T h; exact absurd h (Nat.not_lt_zero _)
  | succ z ih =>
  rintro ⟨k, w, wd, A, c, kids⟩ hz hT f d n pre W yb db hlow hBW hyb hdb hny hnd hy hd hJ0 hN
  simp only [AT.val, AT.k, AT.w, AT.wd, AT.A, AT.c, AT.kids]
  have HT := Aside0.mk hT
  have IH := Aside0.mk ih
  clear ih
  have hU : AtT W0 (.node k w wd A c kids) := hT
  obtain ⟨W1, hW1⟩ : ∃ W1, W1 = W.alloc (.cells #[.int .u8 k, .int .u8 w, .int .i64 wd, .slice A kids.length c] 27) := ⟨_, rfl⟩
  have hby := blk_lt hy
  have hbd := blk_lt hd
  have hbelow : Below W.heap.size W W1 := by rw [hW1]; exact below_alloc (Below.refl _ _) _
  have hbox : W1.heap[W.heap.size]? = some (.cells #[.int .u8 k, .int .u8 w, .int .i64 wd, .slice A kids.length c] 27 (0, 0)) := by rw [hW1]; exact heap_alloc_new W _
  have hpl : Sp (pre ++ [⟨(.node k w wd A c kids, f, d), hT⟩]) := hN _ (by rw [List.map_singleton, AT.pre]; exact List.cons_prefix_cons.2 ⟨rfl, List.nil_prefix⟩)
  have HN := Aside0.mk hN
  clear hN
  obtain ⟨fn, tmps, assign, body, hyr, hR⟩ := hY (n - 1) pre ⟨(.node k w wd A c kids, f, d), hT⟩ W1 (hJ pre W W1 hBW hJ0 hbelow) hpl
  simp only [seenV, AT.k, AT.w, AT.wd, AT.A, AT.c, AT.kids] at hyr
  have HR := Aside0.mk hR
  have HBOX := Aside0.mk hbox
  have HY1 := Aside0.mk (blk_below hy hbelow)
  have HD1 := Aside0.mk (blk_below hd hbelow)
  have HBL := Aside0.mk hbelow
  rw [hW1] at hyr
  have ky := blk_cell hy 0
  simp at ky
  have hu := Try.underlying27
  have hus := Try.underlying119
  clear hR hbox hbelow hy hd
  refine callsIn_of_wp Try.func75 rfl trivial ?_ rfl
  simp only [Try.ntmps75, List.size_toArray, List.length_cons, List.length_nil, Nat.reduceAdd, Nat.reduceSub, Array.replicate_succ, Array.replicate_zero, List.push_toArray, List.append_toArray, List.nil_append, List.cons_append]
  gi_wp2
  refine ⟨fun h => (by cases h), ?_⟩
  rw [← hW1]
  obtain ⟨x, hx⟩ : ∃ x : Told W0, x = ⟨(.node k w wd A c kids, f, d), hT⟩ := ⟨_, rfl⟩
  have HX := Aside0.mk (show x.1 = (.node k w wd A c kids, f, d) by rw [hx])
  have HR2 := HR.out
  rw [← hx] at HR2
  refine HR2.mono ?_
  clear HR HR2 hx hyr ky
  rintro e W2 (⟨rfl, hJ2, hk2⟩ | ⟨rfl, hx2, _⟩)
  case inr =>
    gi_wp2
    go_ret
    exact .inr ⟨rfl, [x], by rw [List.map_singleton, HX.out, AT.pre]; exact List.cons_prefix_cons.2 ⟨rfl, List.nil_prefix⟩, hx2⟩
  have hn0W : n0 ≤ W.heap.size := Nat.le_trans hB hBW
  have hnf : ∀ k, k < W1.heap.size → (¬ fr bx W k ∨ W.heap.size ≤ k) → ¬ fr bx W1 k := fun k hk h hf => by
    have h1 := fr.below hbx hBW HBL.out hf
    have h2 := hJV _ _ hJ0 k h1
    rcases h with h | h
    · exact h h1
    · omega
  have hnB := hnf W.heap.size (blk_lt HBOX.out) (.inr (Nat.le_refl _))
  have hnY := hnf yb (blk_lt HY1.out) (.inl hny)
  have hnD := hnf db (blk_lt HD1.out) (.inl hnd)
  have hnB2 := Aside0.mk (hk2.notfr (blk_lt HBOX.out) hnB)
  have hnY2 := Aside0.mk (hk2.notfr (blk_lt HY1.out) hnY)
  have hnD2 := Aside0.mk (hk2.notfr (blk_lt HD1.out) hnD)
  have HK2 := Aside0.mk (Kp.trans (Kp.of_below hbx hn0W hBW HBL.out) hk2)
  have HS2 := Aside0.mk (Nat.le_trans HBL.out.size hk2.low.size)
  have HBOX2 := Aside0.mk (hk2.high _ _ _ _ hBW hnB HBOX.out)
  have HY2 := Aside0.mk (hk2.high _ _ _ _ hyb hnY HY1.out)
  have HD2 := Aside0.mk (hk2.high _ _ _ _ hdb hnD HD1.out)
  have HL2 := Aside0.mk (hlow.trans (HK2.out.low))
  have HJ2 := Aside0.mk hJ2
  have kb3 := blk_cell HBOX2.out 3
  simp at kb3
  clear hk2 HBOX HY1 HD1 HBL hW1 hJ2 hnf hnB hnY hnD
  gi_wp2
  gi_loopg [1, 26] kids.length (fun kq v1 v26 w' => ∃ (i : Nat) (f' : Int) (ys : List (Told W0)), v26 = .int .i64 i ∧ v1 = .int .i64 f' ∧ i ≤ kids.length ∧ Aside0 (kq = kids.length - i) ∧ Aside0 (Kp n0 B bx W2 w') ∧ W2.heap.size ≤ w'.heap.size ∧ Aside0 (J (pre ++ x :: ys) w') ∧ Aside0 (preL kids f d = ys.map (·.1) ++ preL (kids.drop i) f' d))
  case atStart => exact ⟨0, f, [], rfl, rfl, Nat.zero_le _, ⟨rfl⟩, ⟨Kp.refl _ _ _ _⟩, Nat.le_refl _, ⟨by simpa using HJ2.out⟩, ⟨rfl⟩⟩
  case round =>
    clear kb3
    obtain ⟨i, f', ys, rfl, rfl, hi, HK, HKp, hsz, HJJ, HP⟩ := hrel
    by_cases hlt : i < kids.length
    · have d1 : decide ((i : Int) < (kids.length : Int)) = true := decide_eq_true (by omega)
      obtain ⟨ad, rfl, g, hTk⟩ := AtT.kid hU i hlt
      have hszk : SizeOf.sizeOf kids[i] < z := by
        have := List.sizeOf_lt_of_mem (List.getElem_mem hlt)
        simp only [AT.node.sizeOf_spec] at hz
        omega
      have HP2 := Aside0.mk (show preL kids f d = ys.map (·.1) ++ (kids[i].pre f' (wrap64 (d + 1)) ++ preL (kids.drop (i + 1)) (wrap64 (f' + kids[i].wd)) d) by
        rw [HP.out, List.drop_eq_getElem_cons hlt, preL])
      obtain ⟨T, hTe⟩ : ∃ T, T = kids[i] := ⟨_, rfl⟩
      rw [← hTe] at g hTk hszk HP2
      have hlow2 : Below W0.heap.size W0 wr := by rw [← hn0]; exact HL2.out.trans HKp.out.low
      have g' := g.below hlow2
      have HBOX3 := Aside0.mk (HKp.out.high _ _ _ _ hBW hnB2.out HBOX2.out)
      have HY3 := Aside0.mk (HKp.out.high _ _ _ _ hyb hnY2.out HY2.out)
      have HD3 := Aside0.mk (HKp.out.high _ _ _ _ hdb hnD2.out HD2.out)
      have hBw : B ≤ wr.heap.size := by have := HS2.out; omega
      obtain ⟨k1, w1, wd1, A1, c1, kids1⟩ := T
      obtain ⟨W3, hW3⟩ : ∃ W3, W3 = wr.alloc (.cells #[.int .u8 k1, .int .u8 w1, .int .i64 wd1, .slice A1 kids1.length c1] 27) := ⟨_, rfl⟩
      have hb3 : Below wr.heap.size wr W3 := by rw [hW3]; exact below_alloc (Below.refl _ _) _
      have hs3 : wr.heap.size ≤ W3.heap.size := hb3.size
      have hlen : ∀ zs : List (Told W0), zs.map (·.1) <+: (AT.node k1 w1 wd1 A1 c1 kids1).pre f' (wrap64 (d + 1)) → Sp ((pre ++ x :: ys) ++ zs) := fun zs hz => by
        have h1 := HN.out (x :: (ys ++ zs)) (by
          rw [List.map_cons, HX.out, AT.pre, HP2.out, List.map_append]
          exact List.cons_prefix_cons.2 ⟨rfl, (List.prefix_append_right_inj _).2 (hz.trans (List.prefix_append _ _))⟩)
        rw [List.append_assoc, List.cons_append]
        exact h1
      have hVw := hJV _ _ HJJ.out
      have hnY3 : ¬ fr bx W3 yb := fun hf => HKp.out.notfr (blk_lt HY2.out) hnY2.out (fr.below hbx hBw hb3 hf)
      have hnD3 : ¬ fr bx W3 db := fun hf => HKp.out.notfr (blk_lt HD2.out) hnD2.out (fr.below hbx hBw hb3 hf)
      have hnX3 := Aside0.mk (show ¬ fr bx W3 wr.heap.size from fun hf => by have := hVw _ (fr.below hbx hBw hb3 hf); omega)
      have hcall := IH.out (.node k1 w1 wd1 A1 c1 kids1) hszk hTk f' (wrap64 (d + 1)) (n - 1) (pre ++ x :: ys) W3 yb db (by rw [hn0]; exact hlow2.trans (hb3.mono hlow2.size)) (Nat.le_trans hBw hs3) hyb hdb hnY3 hnD3 (blk_below HY3.out hb3) (blk_below HD3.out hb3) (hJ _ wr W3 hBw HJJ.out hb3) hlen
      simp only [AT.val, AT.k, AT.w, AT.wd, AT.A, AT.c, AT.kids] at hcall
      have HCALL := Aside0.mk hcall
      have hbox3 : W3.heap[wr.heap.size]? = some (.cells #[.int .u8 k1, .int .u8 w1, .int .i64 wd1, .slice A1 kids1.length c1] 27 (0, 0)) := by rw [hW3]; exact heap_alloc_new wr _
      have HB3 := Aside0.mk hbox3
      obtain ⟨q0, q1, q2, q3⟩ := g'
      simp only [AT.k, AT.w, AT.wd, AT.A, AT.c, AT.kids] at q0 q1 q2 q3
      have kd := blk_cell HD3.out 0
      simp at kd
      have hbdw := blk_lt HD3.out
      have HKP3 := Aside0.mk (HKp.out.trans (Kp.of_below hbx (Nat.le_trans hB hBw) hBw hb3))
      clear hcall hbox3 hVw hnY3 hnD3 HP g hTk hszk HKp HJJ hTe
      gi_wp2
      refine ⟨trivial, fun h => (by cases h), ?_⟩
      rw [← hW3]
      refine HCALL.out.mono ?_
      clear HCALL kd q0 q1 q2 q3 hW3
      rintro e W4 (⟨rfl, hk4, hs4, zs, hz4, hj4⟩ | ⟨rfl, zs, hz4, hx4⟩)
      · have kb := blk_cell (hk4.high _ _ _ _ hBw hnX3.out HB3.out) 2
        simp at kb
        have HK4 := Aside0.mk (HKP3.out.trans hk4)
        have HJ4 := Aside0.mk hj4
        have HZ4 := Aside0.mk hz4
        clear hk4 hj4 hz4
        gi_wp2
        gi_roundg (kids.length - (i + 1))
        case measure => have := HK.out; omega
        case rel =>
          have hm : kids.length ≤ 9223372036854775807 := by simp only [AtT] at hU; exact hU.2.1
          exact ⟨i + 1, wrap64 (f' + wd1), ys ++ zs, by rw [show wrap64 ((i : Int) + 1) = ((i + 1 : Nat) : Int) by unfold wrap64; omega], rfl, by omega, ⟨rfl⟩, HK4, by omega, ⟨by simpa using HJ4.out⟩, ⟨by rw [HP2.out, List.map_append, HZ4.out, List.append_assoc]; rfl⟩⟩
      · have HZ4 := Aside0.mk hz4
        have HX4 := Aside0.mk hx4
        clear hz4 hx4
        gi_wp2
        go_ret
        refine .inr ⟨rfl, x :: (ys ++ zs), ?_, by simpa using HX4.out⟩
        obtain ⟨q, hq⟩ := HZ4.out
        refine ⟨q ++ preL (kids.drop (i + 1)) (wrap64 (f' + wd1)) d, ?_⟩
        rw [List.map_cons, HX.out, AT.pre, HP2.out, ← hq, List.map_append]
        simp [AT.wd]
    · have d1 : decide ((i : Int) < (kids.length : Int)) = false := decide_eq_false (by omega)
      obtain rfl : i = kids.length := by omega
      gi_wp2
      go_ret
      refine .inl ⟨rfl, HK2.out.trans HKp.out, Nat.le_trans HS2.out hsz, x :: ys, ?_, HJJ.out⟩
      rw [List.map_cons, HX.out, AT.pre, HP.out, List.drop_length, preL, List.append_nil]
end
def AT.all (T : AT) : List (AT × Int × Int) := if okB T.erase then T.pre 0 0 else []
theorem abides_below {α : Type} {base : Nat} {J : List α → World → Prop} (h : OwnFrom base J) (s : List α) (W W' : World) (hJ : J s W) (hb : Below W.heap.size W W') : J s W' :=
  h s W W' none hJ ⟨hb.os, hb.tape, hb.output, hb.size, fun k hk _ => hb.block k hk⟩ (fun r hr => by cases hr)
set_option maxHeartbeats 4000000 in
set_option maxRecDepth 100000 in
theorem all_stops (W0 : World) (n0 B : Nat) (hn0 : n0 = W0.heap.size) (hB : n0 ≤ B) (bx : List Nat) (hbx : ∀ b ∈ bx, b < B) (nb : Nat) (T : AT) (w : World) (hT : AtT W0 T) (hlow : Below n0 W0 w) (hBw : B ≤ w.heap.size) (hnb : w.heap[nb]? = some (.cells #[.int .u8 T.k, .int .u8 T.w, .int .i64 T.wd, .slice T.A T.kids.length T.c] 27 (0, 0))) :
    SeqStopsO Try.prog 74 #[.pointer (some ⟨nb, 0, none⟩)] (fun x : Told W0 => #[seenV x.1]) (Kp n0 B bx) (Valid bx) (fun ys => ys.map (·.1) = T.all) (fun pre => pre.map (·.1) <+: T.all) w := by
  intro n l J Jx W hW hJ hJx hJV hY h0
  have hnbW := blk_below hnb hW
  have hlowW : Below n0 W0 W := hlow.trans (hW.mono (by rw [hn0]; have := hlow.size; exact this))
  have hBW : B ≤ W.heap.size := Nat.le_trans hBw hW.size
  obtain ⟨W1, hW1⟩ : ∃ W1, W1 = W.alloc (.cells #[.func (.yield l) #[] #[]] 127) := ⟨_, rfl⟩
  have hb1 : Below W.heap.size W W1 := by rw [hW1]; exact below_alloc (Below.refl _ _) _
  have hyb : W1.heap[W.heap.size]? = some (one1 (.func (.yield l) #[] #[]) 127) := by rw [hW1]; exact heap_alloc_new W _
  have hnb1 := blk_below hnbW hb1
  have hT1 : AtT W1 T := AtT.below ((hn0 ▸ hlowW : Below W0.heap.size W0 W).trans (hb1.mono (by have := (hn0 ▸ hlowW : Below W0.heap.size W0 W).size; exact this))) T hT
  have hC := C_of_AT _ T (Nat.lt_succ_self _) W1 hT1
  obtain ⟨k, w1, wd, A, c, kids⟩ := T
  simp only [AT.k, AT.w, AT.wd, AT.A, AT.c, AT.kids] at hnb1 hC ⊢
  have hle : (eraseL kids).length ≤ c := by rw [eraseL_length]; simp only [AtT] at hT; exact hT.1
  have hright := tree_Right.calls k w1 wd A c (eraseL kids) (okB ⟨k, w1, wd, eraseL kids⟩) W1 (by rw [eraseL_length]; exact hC) hle (right_prog _ _ _ _)
  rw [eraseL_length] at hright
  have HRIGHT := Aside0.mk hright
  have HYB := Aside0.mk hyb
  have HNB := Aside0.mk hnb1
  have HJ0 := Aside0.mk (abides_below hJ [] W W1 h0 hb1)
  have HB1 := Aside0.mk hb1
  have HT := Aside0.mk hT
  have k0 := blk_cell hnbW 0
  have k1 := blk_cell hnbW 1
  have k2 := blk_cell hnbW 2
  have k3 := blk_cell hnbW 3
  simp [AT.k, AT.w, AT.wd, AT.A, AT.c, AT.kids] at k0 k1 k2 k3
  have hlt := blk_lt hnbW
  have hu := Try.underlying27
  clear hright hyb hnb1 hb1 hC hT1 hnb hnbW
  refine callsIn_of_wp Try.func74 rfl trivial ?_ rfl
  simp only [Try.ntmps74, List.size_toArray, List.length_cons, List.length_nil, Nat.reduceAdd, Nat.reduceSub, Array.replicate_succ, Array.replicate_zero, List.push_toArray, List.append_toArray, List.nil_append, List.cons_append]
  gi_wp2
  refine ⟨trivial, fun h => (by cases h), ?_⟩
  rw [← hW1]
  refine (callsIn_wide.2 HRIGHT.out).mono ?_
  rintro e W2 ⟨rfl, hb2⟩
  have HYB2 := Aside0.mk (blk_below HYB.out hb2)
  have hnb2 := blk_below HNB.out hb2
  have HJ2 := Aside0.mk (hJ _ _ _ none HJ0.out ⟨hb2.os, hb2.tape, hb2.output, hb2.size, fun k hk _ => hb2.block k hk⟩ (fun r hr => by cases hr))
  have HB2 := Aside0.mk (below_step HB1.out hb2)
  have hlt2 := blk_lt hnb2
  have hyb2 := blk_lt HYB2.out
  clear hb2 HYB HNB HJ0 HB1 HRIGHT hW1 k0 k1 k2 k3 hlt
  cases hok : okB ⟨k, w1, wd, eraseL kids⟩ with
  | false =>
    gi_wp2
    refine bodyPost_ret (results_none rfl _ _ _) rfl ?_
    exact ⟨⟨_, rfl⟩, .inl ⟨[], by rw [AT.all, AT.erase, hok]; rfl, HJ2.out⟩⟩
  | true =>
    have k0 := blk_cell hnb2 0
    have k1 := blk_cell hnb2 1
    have k2 := blk_cell hnb2 2
    have k3 := blk_cell hnb2 3
    simp at k0 k1 k2 k3
    have hall : (AT.node k w1 wd A c kids).all = (AT.node k w1 wd A c kids).pre 0 0 := by rw [AT.all, AT.erase, hok, if_pos rfl]
    rw [hall] at hY
    obtain ⟨W3, hW3⟩ : ∃ W3, W3 = W2.alloc (.cells #[downV W.heap.size W2.heap.size] 128) := ⟨_, rfl⟩
    have hb3 : Below W2.heap.size W2 W3 := by rw [hW3]; exact below_alloc (Below.refl _ _) _
    have hdb : W3.heap[W2.heap.size]? = some (one1 (downV W.heap.size W2.heap.size) 128) := by rw [hW3]; exact heap_alloc_new W2 _
    have hcall := down_in W0 n0 B bx l _ J Jx hn0 hB hbx hJV (fun s W W' _ h hb => abides_below hJ s W W' h hb) hY _ (.node k w1 wd A c kids) (Nat.lt_succ_self _) HT.out 0 0 (n - 1) [] W3 W.heap.size W2.heap.size
      (hlowW.trans ((below_step HB2.out hb3).mono (by rw [hn0]; have := hlowW.size; omega))) (by have := HB2.out.size; have := hb3.size; omega) hBW (by have := HB2.out.size; omega) (fun hf => by have h1 := fr.below hbx (by have := HB2.out.size; omega) hb3 hf; have h2 := hJV _ _ h0 _ (fr.below hbx hBW HB2.out h1); omega) (fun hf => by have h1 := fr.below hbx (by have := HB2.out.size; omega) hb3 hf; have h2 := hJV _ _ HJ2.out _ h1; omega) (blk_below HYB2.out hb3) hdb (abides_below hJ [] W2 W3 HJ2.out hb3) (fun ys hy => by rw [List.nil_append]; exact hy)
    simp only [AT.val, AT.k, AT.w, AT.wd, AT.A, AT.c, AT.kids, List.nil_append] at hcall
    have HCALL := Aside0.mk hcall
    clear hcall hnb2 hb3 hdb
    gi_wp2
    refine ⟨trivial, fun h => (by cases h), ?_⟩
    change CallsIn Fence.wide (n - 1) Try.prog 75 _ (W2.alloc (.cells #[downV W.heap.size W2.heap.size] 128)) _
    rw [← hW3]
    refine HCALL.out.mono ?_
    clear HCALL k0 k1 k2 k3 hW3
    rintro e W4 (⟨rfl, _, _, zs, hz, hj⟩ | ⟨rfl, zs, hz, hx⟩)
    · gi_wp2
      go_end0
      exact ⟨⟨_, rfl⟩, .inl ⟨zs, by rw [hall]; exact hz, hj⟩⟩
    · gi_wp2
      go_end0
      exact ⟨⟨_, rfl⟩, .inr ⟨zs, by rw [hall]; exact hz, hx⟩⟩
end Go.Proofs.Ytghbfjmmjfklfaa.H
