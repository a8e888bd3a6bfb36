/- Texts of this claim, merged. -/
import Derived.Test.YtceddikbmbadlaaZ7
import Derived.Laws.EntriesVeiled
import Derived.Deep.Slices
import Derived.Shelf.RegionOpen
import Derived.TacticsInMore
import Derived.LoopNIn
import Derived.LoopIn
import Derived.Sort.LoopGhostIn
set_option linter.unusedVariables false
set_option linter.unusedSimpArgs false
namespace Go.Proofs.Ytceddikbmbadlaa.H
open Go.RowKit Go.Proofs.YtceddikbmbadlaaW.PrintWords Go.Proofs.YtceddikbmbadlaaW.PrintLast Go.Proofs.YtceddikbmbadlaaW.PrintMore
set_option maxHeartbeats 1000000 in
theorem tree_Right.calls (a0_0 : Int) (a0_1 : Int) (a0_2 : Int) (A0_3 : Option Addr) (c0_3 : Nat) (l0_3 : List S25) (r : Bool) (w : World) (hr0_3 : Kd.C k25 w A0_3 l0_3.length l0_3) (hc0_3 : l0_3.length ≤ c0_3) (h : tree_Right.f a0_0 a0_1 a0_2 l0_3 = some r) :
  Calls Try.prog 62 #[.agg #[.int .u8 a0_0, .int .u8 a0_1, .int .i64 a0_2, .slice A0_3 l0_3.length c0_3]] w fun e w' => e = .returned (.bool r) ∧ Below w.heap.size w w' := by
 have HR := zaa.mk (Option.some.inj h); clear h; have HF := zaa.mk (Kd.C_F heap25 hr0_3); have HC := zaa.mk hc0_3; clear hr0_3 hc0_3; have hu := Try.underlying25; go_enter Try.func62, Try.ntmps62
 go_wp2_with fail
 obtain ⟨W1, hW1⟩ : ∃ W1, W1 = ((w.alloc (.cells #[.int .u8 a0_0, .int .u8 a0_1, .int .i64 a0_2, .slice A0_3 l0_3.length c0_3] 25)).alloc (.cells #[.int .i64 0] 3)).alloc (.cells #[mayV (w.heap.size + 1) (w.heap.size + 1 + 1)] 105) := ⟨_, rfl⟩; have HB1 := zaa.mk (show Below w.heap.size w W1 by
  rw [hW1]; exact Below.alloc (Below.alloc (zad (Below.refl _ _) _) (by simp) _) (by simp; omega) _)
 have h3 : W1.heap[w.heap.size + 1]? = some (one1 (.int .i64 0) 3) := by
  rw [hW1, Below.heap_alloc _ _ _ (by simp)]
  have := heap_alloc_new (w.alloc (.cells #[.int .u8 a0_0, .int .u8 a0_1, .int .i64 a0_2, .slice A0_3 l0_3.length c0_3] 25)) (.cells #[.int .i64 0] 3)
  simpa using this
 have h4 : W1.heap[w.heap.size + 1 + 1]? = some (one1 (mayV (w.heap.size + 1) (w.heap.size + 1 + 1)) 105) := by
  rw [hW1]; have := heap_alloc_new ((w.alloc (.cells #[.int .u8 a0_0, .int .u8 a0_1, .int .i64 a0_2, .slice A0_3 l0_3.length c0_3] 25)).alloc (.cells #[.int .i64 0] 3)) (.cells #[mayV (w.heap.size + 1) (w.heap.size + 1 + 1)] 105)
  simpa using this
 have hF1 : Kd.F k25 W1 (fun k => k ≠ w.heap.size + 1) A0_3 l0_3.length l0_3 := Kd.F_mono (Kd.F_below HF.out HB1.out) (fun k hk => by omega)
 change Calls Try.prog 67 _ (((w.alloc (.cells #[.int .u8 a0_0, .int .u8 a0_1, .int .i64 a0_2, .slice A0_3 l0_3.length c0_3] 25)).alloc (.cells #[.int .i64 0] 3)).alloc (.cells #[mayV (w.heap.size + 1) (w.heap.size + 1 + 1)] 105)) _
 rw [← hW1]; clear hW1; refine (may_calls (SizeOf.sizeOf (⟨a0_0, a0_1, a0_2, l0_3⟩ : S25) + 1) ⟨a0_0, a0_1, a0_2, l0_3⟩ (Nat.lt_succ_self _) 1 0 A0_3 c0_3 W1 (w.heap.size + 1) (w.heap.size + 1 + 1) (by omega) h3 h4 hF1 HC.out).mono ?_
 rintro e W2 ⟨rfl, hg, _⟩
 rw [HR.out]; have HB2 := zaa.mk (HB1.out.grown hg HB1.out.size (fun k hk => by injection hk with hk; omega))
 clear h3 h4 hF1 hg; go_wp2
 go_ret
 exact ⟨rfl, HB2.out⟩
end Go.Proofs.Ytceddikbmbadlaa.H
set_option linter.unusedVariables false
set_option linter.unusedSimpArgs false
namespace Go.Proofs.Ytceddikbmbadlaa.H
open Go.RowKit Go.Proofs.YtceddikbmbadlaaW.PrintWords Go.Proofs.YtceddikbmbadlaaW.PrintLast Go.Proofs.YtceddikbmbadlaaW.PrintMore
inductive AT where
 | node (k w wd : Int) (A : Option Addr) (c : Nat) (kids : List AT)
namespace AT
def k : AT → Int
 | node k _ _ _ _ _ => k
def w : AT → Int
 | node _ w _ _ _ _ => w
def wd : AT → Int
 | node _ _ wd _ _ _ => wd
def A : AT → Option Addr
 | node _ _ _ A _ _ => A
def c : AT → Nat
 | node _ _ _ _ c _ => c
def kids : AT → List AT
 | node _ _ _ _ _ kids => kids
def val (T : AT) : Value := .agg #[.int .u8 T.k, .int .u8 T.w, .int .i64 T.wd, .slice T.A T.kids.length T.c]
end AT
mutual
def AT.erase : AT → S25
 | .node k w wd _ _ kids => ⟨k, w, wd, eraseL kids⟩
def eraseL : List AT → List S25
 | [] => []
 | T :: r => T.erase :: eraseL r
end
theorem zbA : ∀ l : List AT, (eraseL l).length = l.length
 | [] => rfl
 | _ :: r => by simp [eraseL, zbA r]
def w0 (W : World) (ad : Addr) (i : Nat) (T : AT) : Prop := W.cell? (ad.add (i * 4)) = some (.int .u8 T.k) ∧ W.cell? ⟨(ad.add (i * 4)).block, (ad.add (i * 4)).off + 1, none⟩ = some (.int .u8 T.w) ∧ W.cell? ⟨(ad.add (i * 4)).block, (ad.add (i * 4)).off + 2, none⟩ = some (.int .i64 T.wd) ∧ W.cell? ⟨(ad.add (i * 4)).block, (ad.add (i * 4)).off + 3, none⟩ = some (.slice T.A T.kids.length T.c)
theorem w0.below {W W1 : World} {ad : Addr} {i : Nat} {T : AT} (h : w0 W ad i T) (hb : Below W.heap.size W W1) : w0 W1 ad i T := by
 obtain ⟨h0, h1, h2, h3⟩ := h
 exact ⟨(hb.cell (World.block_lt_of_cell? W _ h0)).trans h0, (hb.cell (World.block_lt_of_cell? W _ h1)).trans h1, (hb.cell (World.block_lt_of_cell? W _ h2)).trans h2, (hb.cell (World.block_lt_of_cell? W _ h3)).trans h3⟩
mutual
def AtT (W : World) : AT → Prop
 | .node _ _ _ A c kids => kids.length ≤ c ∧ kids.length ≤ 9223372036854775807 ∧ (kids = [] ∨ ∃ ad, A = some ad ∧ AtL W ad 0 kids)
def AtL (W : World) (ad : Addr) : Nat → List AT → Prop
 | _, [] => True
 | i, T :: r => (w0 W ad i T ∧ AtT W T) ∧ AtL W ad (i + 1) r
end
mutual
theorem AtT.below {W W1 : World} (hb : Below W.heap.size W W1) : ∀ (T : AT), AtT W T → AtT W1 T
 | .node _ _ _ A c kids, h => by
  simp only [AtT] at h ⊢
  refine ⟨h.1, h.2.1, ?_⟩
  rcases h.2.2 with h | ⟨ad, h1, h2⟩
  ·exact .inl h
  ·exact .inr ⟨ad, h1, AtL.below hb ad 0 kids h2⟩
theorem AtL.below {W W1 : World} (hb : Below W.heap.size W W1) (ad : Addr) : ∀ (i : Nat) (l : List AT), AtL W ad i l → AtL W1 ad i l
 | _, [], _ => by simp only [AtL]
 | i, T :: r, h => by
  simp only [AtL] at h ⊢
  exact ⟨⟨h.1.1.below hb, AtT.below hb T h.1.2⟩, AtL.below hb ad (i + 1) r h.2⟩
end
theorem AtL.get {W : World} {ad : Addr} : ∀ (l : List AT) (i j : Nat) (h : AtL W ad i l) (hj : j < l.length), w0 W ad (i + j) l[j] ∧ AtT W l[j]
 | [], i, j, _, hj => absurd hj (Nat.not_lt_zero _)
 | T :: r, i, 0, h, _ => by simp only [AtL] at h; exact h.1
 | T :: r, i, j + 1, h, hj => by
  simp only [AtL] at h
  have := AtL.get r (i + 1) j h.2 (by simpa using hj)
  rw [show i + (j + 1) = i + 1 + j by omega]
  exact this
theorem AtT.kid {W : World} {k w wd : Int} {A : Option Addr} {c : Nat} {kids : List AT} (h : AtT W (.node k w wd A c kids)) (j : Nat) (hj : j < kids.length) : ∃ ad, A = some ad ∧ w0 W ad j kids[j] ∧ AtT W kids[j] := by
 simp only [AtT] at h
 rcases h.2.2 with rfl | ⟨ad, h1, h2⟩
 ·exact absurd hj (Nat.not_lt_zero _)
 ·have := AtL.get kids 0 j h2 hj
  rw [Nat.zero_add] at this
  exact ⟨ad, h1, this⟩
theorem AtL.of {W : World} {ad : Addr} : ∀ (l : List AT) (i : Nat), (∀ (j : Nat) (hj : j < l.length), w0 W ad (i + j) l[j] ∧ AtT W l[j]) → AtL W ad i l
 | [], i, _ => by simp only [AtL]
 | T :: r, i, h => by
  simp only [AtL]
  refine ⟨by have := h 0 (by simp); simpa using this, AtL.of r (i + 1) fun j hj => ?_⟩
  have := h (j + 1) (by simpa using hj)
  rw [show i + (j + 1) = i + 1 + j by omega] at this
  exact this
theorem eraseL_get : ∀ (l : List AT) (j : Nat) (h : j < l.length), za0 (eraseL l) (j : Int) = l[j].erase
 | [], j, h => absurd h (Nat.not_lt_zero _)
 | T :: r, 0, _ => by simp [eraseL, za0]
 | T :: r, j + 1, h => by
  have := eraseL_get r j (by simpa using h)
  simp only [eraseL, List.getElem_cons_succ]
  rw [← this]
  simp [za0]
theorem erase_f (T : AT) : T.erase = ⟨T.k, T.w, T.wd, eraseL T.kids⟩ := by cases T; simp [AT.erase, AT.k, AT.w, AT.wd, AT.kids]
theorem exists_AT (W : World) (n : Nat) : ∀ (t : S25), SizeOf.sizeOf t < n → ∀ (A : Option Addr) (c : Nat), t.f3.length ≤ c → Kd.C k25 W A t.f3.length t.f3 → ∃ kids : List AT, eraseL kids = t.f3 ∧ AtT W (.node t.f0 t.f1 t.f2 A c kids) := by
 induction n with
 | zero => intro t h; exact absurd h (Nat.not_lt_zero _)
 | succ n ih =>
  rintro ⟨k, w, wd, l⟩ ht A c hc hC
  simp only at hc hC ⊢
  have hel : ∀ i, i < l.length → ∃ T : AT, T.erase = za0 l (i : Int) ∧ ∃ ad, A = some ad ∧ w0 W ad i T ∧ AtT W T := by
   intro i hi
   obtain ⟨ad, A3, c3, e, g0, g1, g2, g3, gl, gC⟩ := at_T25 hC (i : Int) (by omega) (by omega)
   rw [Int.toNat_natCast] at g0 g1 g2 g3
   have hm : za0 l (i : Int) ∈ l := by rw [rd_at25 l i hi]; exact List.getElem_mem hi
   have hsz := List.sizeOf_lt_of_mem hm
   simp only [S25.mk.sizeOf_spec] at ht
   obtain ⟨kids, he, hA⟩ := ih (za0 l (i : Int)) (by omega) A3 c3 gl gC
   refine ⟨.node _ _ _ A3 c3 kids, ?_, ad, e, ⟨g0, g1, g2, ?_⟩, hA⟩
   ·rw [AT.erase, he, eta25]
   ·rw [show (AT.node (za0 l (i : Int)).f0 (za0 l (i : Int)).f1 (za0 l (i : Int)).f2 A3 c3 kids).kids.length = (za0 l (i : Int)).f3.length by rw [← he, zbA]; rfl]
    exact g3
  haveI : Inhabited AT := ⟨.node 0 0 0 none 0 []⟩
  obtain ⟨f, hf⟩ := Deep.choose_lt hel
  have hlen : ((List.range l.length).map f).length = l.length := by simp
  refine ⟨(List.range l.length).map f, ?_, ?_⟩
  ·refine List.ext_getElem (by rw [zbA, hlen]) fun j h1 h2 => ?_
   have := (hf j h2).1
   rw [rd_at25 l j h2] at this
   rw [← rd_at25 _ j h1, eraseL_get _ j (by rw [hlen]; exact h2), ← this]
   simp
  ·simp only [AtT]
   refine ⟨by rw [hlen]; exact hc, by rw [hlen]; exact hC.2.1, ?_⟩
   rcases Nat.eq_zero_or_pos l.length with h0 | h0
   ·exact .inl (by rw [h0]; rfl)
   ·obtain ⟨_, ad, he, _⟩ := hf 0 h0
    refine .inr ⟨ad, he, AtL.of _ 0 fun j hj => ?_⟩
    rw [hlen] at hj
    obtain ⟨_, ad', he', h1, h2⟩ := hf j hj
    rw [he] at he'
    cases he'
    simpa using ⟨h1, h2⟩
theorem C_of_AT (n : Nat) : ∀ (T : AT), SizeOf.sizeOf T < n → ∀ (W : World), AtT W T → Kd.C k25 W T.A T.kids.length (eraseL T.kids) := by
 induction n with
 | zero => intro T h; exact absurd h (Nat.not_lt_zero _)
 | succ n ih =>
  rintro ⟨k, w, wd, A, c, kids⟩ ht W h
  simp only [AT.A, AT.kids]
  have hm : kids.length ≤ 9223372036854775807 := by simp only [AtT] at h; exact h.2.1
  refine ⟨zbA kids, hm, fun hpos => ?_⟩
  obtain ⟨ad, e, _, _⟩ := AtT.kid h 0 hpos
  refine ⟨ad, e, fun j p hj => ?_⟩
  obtain ⟨hlt, rfl⟩ := List.getElem?_eq_some_iff.1 hj
  have hlt2 : j < kids.length := by rw [← zbA]; exact hlt
  obtain ⟨ad', e', ⟨h0, h1, h2, h3⟩, hT⟩ := AtT.kid h j hlt2
  rw [e] at e'
  cases e'
  have hs : SizeOf.sizeOf kids[j] < n := by
   have := List.sizeOf_lt_of_mem (List.getElem_mem hlt2)
   simp only [AT.node.sizeOf_spec] at ht
   omega
  have hC := ih kids[j] hs W hT
  have hle : kids[j].kids.length ≤ kids[j].c := by
   cases hk : kids[j] with
   | node k w wd A c l =>
    rw [hk] at hT
    simp only [AtT] at hT
    exact hT.1
  have ep : (eraseL kids)[j] = kids[j].erase := by rw [← rd_at25 _ j hlt, eraseL_get _ j hlt2]
  rw [ep, erase_f]
  refine ⟨[.int .u8 kids[j].k, .int .u8 kids[j].w, .int .i64 kids[j].wd, .slice kids[j].A kids[j].kids.length kids[j].c], rfl, ?_, fun i u hu => ?_⟩
  ·have := k25_mk W ⟨kids[j].k, kids[j].w, kids[j].wd, eraseL kids[j].kids⟩ (A3 := kids[j].A) (c3 := kids[j].c) (by simp only; rw [zbA]; exact hle) (by simp only; rw [zbA]; exact hC)
   simp only [zbA] at this
   exact this
  ·match i, hu with
   | 0, hu => simp only [List.getElem?_cons_zero, Option.some.injEq] at hu; subst hu; exact h0
   | 1, hu => simp only [List.getElem?_cons_succ, List.getElem?_cons_zero, Option.some.injEq] at hu; subst hu; rw [show k25.sz = 4 from rfl, zbe _ _ 1 (by omega)]; exact h1
   | 2, hu => simp only [List.getElem?_cons_succ, List.getElem?_cons_zero, Option.some.injEq] at hu; subst hu; rw [show k25.sz = 4 from rfl, zbe _ _ 2 (by omega)]; exact h2
   | 3, hu => simp only [List.getElem?_cons_succ, List.getElem?_cons_zero, Option.some.injEq] at hu; subst hu; rw [show k25.sz = 4 from rfl, zbe _ _ 3 (by omega)]; exact h3
end Go.Proofs.Ytceddikbmbadlaa.H
namespace Go.Proofs.Ytceddikbmbadlaa.H
open Go.RowKit Go.Shelf Go.Proofs.YtceddikbmbadlaaW.PrintWords Go.Proofs.YtceddikbmbadlaaW.PrintLast Go.Proofs.YtceddikbmbadlaaW.PrintMore
section
attribute [local go_sem] Oper.semAt_some
def fr (bx : List Nat) (W : World) (k : Nat) : Prop := ∃ b, b ∈ bx ∧ ∃ v, W.cell? ⟨b, 0, none⟩ = some v ∧ v.ownBlock = some k
def Valid (bx : List Nat) (W : World) : Prop := ∀ k, fr bx W k → k < W.heap.size
theorem fr.below {bx : List Nat} {B : Nat} (hbx : ∀ b ∈ bx, b < B) {W W1 : World} (hB : B ≤ W.heap.size) (h : Below W.heap.size W W1) {k : Nat} (hf : fr bx W1 k) : fr bx W k := by
 obtain ⟨b, hb, v, hv, ho⟩ := hf; have hlt := hbx b hb; exact ⟨b, hb, v, by rw [← h.cell (p := ⟨b, 0, none⟩) (show b < W.heap.size by omega)]; exact hv, ho⟩
structure Kp (n0 B : Nat) (bx : List Nat) (W W' : World) : Prop where
 low : Below n0 W W'
 high : ∀ (k : Nat) (cs : Array Value) (t : TypeId) (fz : Nat × Nat), B ≤ k → ¬ fr bx W k → W.heap[k]? = some (.cells cs t fz) → W'.heap[k]? = some (.cells cs t fz)
 own : ∀ k, fr bx W' k → fr bx W k ∨ W.heap.size ≤ k
 rest : ∀ (k : Nat) (o : Obj), B + 2 ≤ k → o.isCells = false → W.heap[k]? = some o → W'.heap[k]? = some o
theorem Kp.refl (n0 B : Nat) (bx : List Nat) (W : World) : Kp n0 B bx W W := ⟨Below.refl _ _, fun _ _ _ _ _ _ h => h, fun _ h => .inl h, fun _ _ _ _ h => h⟩
theorem Kp.notfr {n0 B : Nat} {bx : List Nat} {W W' : World} (h : Kp n0 B bx W W') {k : Nat} (hk : k < W.heap.size) (hn : ¬ fr bx W k) : ¬ fr bx W' k := fun hf => (h.own k hf).elim hn (fun h => by omega)
theorem Kp.trans {n0 B : Nat} {bx : List Nat} {W W1 W2 : World} (h : Kp n0 B bx W W1) (k : Kp n0 B bx W1 W2) : Kp n0 B bx W W2 :=
 ⟨h.low.trans k.low, fun q cs t fz hq hn hc => k.high q cs t fz hq (h.notfr (za9 hc) hn) (h.high q cs t fz hq hn hc), fun q hq => (k.own q hq).elim (h.own q) (fun h2 => .inr (Nat.le_trans h.low.size h2)), fun q o hq hc hh => k.rest q o hq hc (h.rest q o hq hc hh)⟩
theorem Kp.of_below {n0 B : Nat} {bx : List Nat} (hbx : ∀ b ∈ bx, b < B) {W W1 : World} (hn : n0 ≤ W.heap.size) (hB : B ≤ W.heap.size) (h : Below W.heap.size W W1) : Kp n0 B bx W W1 := ⟨h.mono hn, fun k cs t fz _ _ hc => (h.block k (za9 hc)).trans hc, fun k hf => .inl (fr.below hbx hB h hf), fun k o _ _ hc => (h.block k (za9 hc)).trans hc⟩
theorem below_putObj {n k : Nat} (W : World) (o : Obj) (h : n ≤ k) : Below n W (W.putObj k o) := ⟨rfl, rfl, rfl, by simp, fun q hq => World.putObj_heap_other (by omega)⟩
theorem Kp.record {n0 B : Nat} {bx : List Nat} (hbx : ∀ b ∈ bx, b < B) (hn : n0 ≤ B) (W : World) (o o' : Obj) (h : W.heap[B + 1]? = some o) (hc : o.isCells = false) : Kp n0 B bx W (W.putObj (B + 1) o') := by
 refine ⟨below_putObj W o' (by omega), fun k cs t fz hk _ hcs => ?_, fun k hf => .inl ?_, fun k q hk _ hq => ?_⟩
 ·by_cases e : k = B + 1
  ·subst e
   rw [h] at hcs; cases hcs; cases hc
  ·exact (World.putObj_heap_other e).trans hcs
 ·obtain ⟨b, hb, v, hv, ho⟩ := hf
  have hlt := hbx b hb; refine ⟨b, hb, v, ?_, ho⟩
  rw [← (below_putObj W o' (Nat.le_refl (B + 1))).cell (p := ⟨b, 0, none⟩) (show b < B + 1 by omega)]
  exact hv
 ·exact (World.putObj_heap_other (by omega)).trans hq
theorem Kp.keeps {n0 B C : Nat} {bx : List Nat} {W W' : World} (h : Kp n0 B bx W W') (hC : B + 2 ≤ C) : KeepsFrom C W W' := ⟨h.low.size, fun k o hk ho hc => h.rest k o (by omega) hc ho⟩
mutual
def AT.pre : AT → Int → Int → List (AT × Int × Int)
 | .node k w wd A c kids, f, d => (.node k w wd A c kids, f, d) :: preL kids f d
def preL : List AT → Int → Int → List (AT × Int × Int)
 | [], _, _ => []
 | T :: r, f, d => T.pre f (wrap64 (d + 1)) ++ preL r (wrap64 (f + T.wd)) d
end
def seenV (x : AT × Int × Int) : Value := .agg #[.int .u8 x.1.k, .int .u8 x.1.w, .int .i64 x.1.wd, .slice x.1.A x.1.kids.length x.1.c, .int .i64 x.2.1, .int .i64 (wrap64 (x.2.1 + x.1.wd)), .int .i64 x.2.2]
abbrev Told (W0 : World) := { x : AT × Int × Int // AtT W0 x.1 }
abbrev downV (yb db : Nat) : Value := .func (.func 63) #[] #[.pointer (some ⟨yb, 0, none⟩), .pointer (some ⟨db, 0, none⟩)]
section
variable (W0 : World) (n0 B : Nat) (bx : List Nat) (l : Nat) (Sp : List (Told W0) → Prop) (J Jx : List (Told W0) → World → Prop)
def DownPost (pre : List (Told W0)) (xs : List (AT × Int × Int)) (W : World) (e : Ending) (W' : World) : Prop :=
 (e = .returned (.bool true) ∧ Kp n0 B bx W W' ∧ W.heap.size ≤ W'.heap.size ∧ ∃ ys : List (Told W0), ys.map (·.1) = xs ∧ J (pre ++ ys) W') ∨ (e = .returned (.bool false) ∧ ∃ ys : List (Told W0), ys.map (·.1) <+: xs ∧ Jx (pre ++ ys) W')
variable (hn0 : n0 = W0.heap.size) (hB : n0 ≤ B) (hbx : ∀ b ∈ bx, b < B) (hJV : ∀ s W, J s W → Valid bx W)
 (hJ : ∀ s (W W' : World), B ≤ W.heap.size → J s W → Below W.heap.size W W' → J s W')
 (hY : ∀ m pre x W, J pre W → Sp (pre ++ [x]) → YieldAt Fence.wide m Try.prog l #[seenV x.1] W fun e W' =>
   (e = .returned (.bool true) ∧ J (pre ++ [x]) W' ∧ Kp n0 B bx W W') ∨ (e = .returned (.bool false) ∧ Jx (pre ++ [x]) W' ∧ Kp n0 B bx W W'))
include hn0 hB hbx hJV hJ hY
set_option maxHeartbeats 4000000 in
set_option maxRecDepth 100000 in
theorem down_in (z : Nat) : ∀ (T : AT), SizeOf.sizeOf T < z → AtT W0 T → ∀ (f d : Int) (n : Nat) (pre : List (Told W0)) (W : World) (yb db : Nat), Below n0 W0 W → B ≤ W.heap.size → B ≤ yb → B ≤ db → ¬ fr bx W yb → ¬ fr bx W db → W.heap[yb]? = some (one1 (.func (.yield l) #[] #[]) 102) → W.heap[db]? = some (one1 (downV yb db) 103) →
  J pre W → (∀ ys : List (Told W0), ys.map (·.1) <+: T.pre f d → Sp (pre ++ ys)) →
  CallsIn Fence.wide n Try.prog 63 #[T.val, .int .i64 f, .int .i64 d, .pointer (some ⟨yb, 0, none⟩), .pointer (some ⟨db, 0, none⟩)] W (DownPost W0 n0 B bx J Jx pre (T.pre f d) W) := by
 induction z with
 | zero => intro T h; exact absurd h (Nat.not_lt_zero _)
 | succ z ih =>
 rintro ⟨k, w, wd, A, c, kids⟩ hz hT f d n pre W yb db hlow hBW hyb hdb hny hnd hy hd hJ0 hN
 simp only [AT.val, AT.k, AT.w, AT.wd, AT.A, AT.c, AT.kids]; have HT := zaa.mk hT; have IH := zaa.mk ih; clear ih; have hU : AtT W0 (.node k w wd A c kids) := hT; obtain ⟨W1, hW1⟩ : ∃ W1, W1 = W.alloc (.cells #[.int .u8 k, .int .u8 w, .int .i64 wd, .slice A kids.length c] 25) := ⟨_, rfl⟩; have hby := za9 hy; have hbd := za9 hd; have hbelow : Below W.heap.size W W1 := by rw [hW1]; exact zad (Below.refl _ _) _
 have hbox : W1.heap[W.heap.size]? = some (.cells #[.int .u8 k, .int .u8 w, .int .i64 wd, .slice A kids.length c] 25 (0, 0)) := by rw [hW1]; exact heap_alloc_new W _
 have hpl : Sp (pre ++ [⟨(.node k w wd A c kids, f, d), hT⟩]) := hN _ (by rw [List.map_singleton, AT.pre]; exact List.cons_prefix_cons.2 ⟨rfl, List.nil_prefix⟩)
 have HN := zaa.mk hN; clear hN; obtain ⟨fn, tmps, assign, body, hyr, hR⟩ := hY (n - 1) pre ⟨(.node k w wd A c kids, f, d), hT⟩ W1 (hJ pre W W1 hBW hJ0 hbelow) hpl; simp only [seenV, AT.k, AT.w, AT.wd, AT.A, AT.c, AT.kids] at hyr; have HR := zaa.mk hR; have HBOX := zaa.mk hbox; have HY1 := zaa.mk (zaX hy hbelow); have HD1 := zaa.mk (zaX hd hbelow); have HBL := zaa.mk hbelow; rw [hW1] at hyr; have ky := zaf hy 0; simp at ky; have hu := Try.underlying25; have hus := Try.underlying97; clear hR hbox hbelow hy hd; refine callsIn_of_wp Try.func63 rfl trivial ?_ rfl
 simp only [Try.ntmps63, List.size_toArray, List.length_cons, List.length_nil, Nat.reduceAdd, Nat.reduceSub, Array.replicate_succ, Array.replicate_zero, List.push_toArray, List.append_toArray, List.nil_append, List.cons_append]
 gi_wp2
 refine ⟨fun h => (by cases h), ?_⟩
 rw [← hW1]; obtain ⟨x, hx⟩ : ∃ x : Told W0, x = ⟨(.node k w wd A c kids, f, d), hT⟩ := ⟨_, rfl⟩; have HX := zaa.mk (show x.1 = (.node k w wd A c kids, f, d) by rw [hx])
 have HR2 := HR.out; rw [← hx] at HR2; refine HR2.mono ?_
 clear HR HR2 hx hyr ky; rintro e W2 (⟨rfl, hJ2, hk2⟩ | ⟨rfl, hx2, _⟩)
 case inr =>
  gi_wp2
  go_ret
  exact .inr ⟨rfl, [x], by rw [List.map_singleton, HX.out, AT.pre]; exact List.cons_prefix_cons.2 ⟨rfl, List.nil_prefix⟩, hx2⟩
 have hn0W : n0 ≤ W.heap.size := Nat.le_trans hB hBW; have hnf : ∀ k, k < W1.heap.size → (¬ fr bx W k ∨ W.heap.size ≤ k) → ¬ fr bx W1 k := fun k hk h hf => by
  have h1 := fr.below hbx hBW HBL.out hf; have h2 := hJV _ _ hJ0 k h1; rcases h with h | h
  ·exact h h1
  ·omega
 have hnB := hnf W.heap.size (za9 HBOX.out) (.inr (Nat.le_refl _)); have hnY := hnf yb (za9 HY1.out) (.inl hny); have hnD := hnf db (za9 HD1.out) (.inl hnd); have hnB2 := zaa.mk (hk2.notfr (za9 HBOX.out) hnB); have hnY2 := zaa.mk (hk2.notfr (za9 HY1.out) hnY); have hnD2 := zaa.mk (hk2.notfr (za9 HD1.out) hnD); have HK2 := zaa.mk (Kp.trans (Kp.of_below hbx hn0W hBW HBL.out) hk2); have HS2 := zaa.mk (Nat.le_trans HBL.out.size hk2.low.size); have HBOX2 := zaa.mk (hk2.high _ _ _ _ hBW hnB HBOX.out); have HY2 := zaa.mk (hk2.high _ _ _ _ hyb hnY HY1.out); have HD2 := zaa.mk (hk2.high _ _ _ _ hdb hnD HD1.out); have HL2 := zaa.mk (hlow.trans (HK2.out.low)); have HJ2 := zaa.mk hJ2; have kb3 := zaf HBOX2.out 3; simp at kb3; clear hk2 HBOX HY1 HD1 HBL hW1 hJ2 hnf hnB hnY hnD
 gi_wp2
 gi_loopg [1, 26] kids.length (fun kq v1 v26 w' => ∃ (i : Nat) (f' : Int) (ys : List (Told W0)), v26 = .int .i64 i ∧ v1 = .int .i64 f' ∧ i ≤ kids.length ∧ zaa (kq = kids.length - i) ∧ zaa (Kp n0 B bx W2 w') ∧ W2.heap.size ≤ w'.heap.size ∧ zaa (J (pre ++ x :: ys) w') ∧ zaa (preL kids f d = ys.map (·.1) ++ preL (kids.drop i) f' d))
 case atStart => exact ⟨0, f, [], rfl, rfl, Nat.zero_le _, ⟨rfl⟩, ⟨Kp.refl _ _ _ _⟩, Nat.le_refl _, ⟨by simpa using HJ2.out⟩, ⟨rfl⟩⟩
 case round =>
  clear kb3; obtain ⟨i, f', ys, rfl, rfl, hi, HK, HKp, hsz, HJJ, HP⟩ := hrel; by_cases hlt : i < kids.length
  ·have d1 : decide ((i : Int) < (kids.length : Int)) = true := decide_eq_true (by omega)
   obtain ⟨ad, rfl, g, hTk⟩ := AtT.kid hU i hlt; have hszk : SizeOf.sizeOf kids[i] < z := by
    have := List.sizeOf_lt_of_mem (List.getElem_mem hlt); simp only [AT.node.sizeOf_spec] at hz; omega
   have HP2 := zaa.mk (show preL kids f d = ys.map (·.1) ++ (kids[i].pre f' (wrap64 (d + 1)) ++ preL (kids.drop (i + 1)) (wrap64 (f' + kids[i].wd)) d) by
    rw [HP.out, List.drop_eq_getElem_cons hlt, preL])
   obtain ⟨T, hTe⟩ : ∃ T, T = kids[i] := ⟨_, rfl⟩; rw [← hTe] at g hTk hszk HP2; have hlow2 : Below W0.heap.size W0 wr := by rw [← hn0]; exact HL2.out.trans HKp.out.low
   have g' := g.below hlow2; have HBOX3 := zaa.mk (HKp.out.high _ _ _ _ hBW hnB2.out HBOX2.out); have HY3 := zaa.mk (HKp.out.high _ _ _ _ hyb hnY2.out HY2.out); have HD3 := zaa.mk (HKp.out.high _ _ _ _ hdb hnD2.out HD2.out); have hBw : B ≤ wr.heap.size := by have := HS2.out; omega
   obtain ⟨k1, w1, wd1, A1, c1, kids1⟩ := T; obtain ⟨W3, hW3⟩ : ∃ W3, W3 = wr.alloc (.cells #[.int .u8 k1, .int .u8 w1, .int .i64 wd1, .slice A1 kids1.length c1] 25) := ⟨_, rfl⟩; have hb3 : Below wr.heap.size wr W3 := by rw [hW3]; exact zad (Below.refl _ _) _
   have hs3 : wr.heap.size ≤ W3.heap.size := hb3.size; have hlen : ∀ zs : List (Told W0), zs.map (·.1) <+: (AT.node k1 w1 wd1 A1 c1 kids1).pre f' (wrap64 (d + 1)) → Sp ((pre ++ x :: ys) ++ zs) := fun zs hz => by
    have h1 := HN.out (x :: (ys ++ zs)) (by
     rw [List.map_cons, HX.out, AT.pre, HP2.out, List.map_append]; exact List.cons_prefix_cons.2 ⟨rfl, (List.prefix_append_right_inj _).2 (hz.trans (List.prefix_append _ _))⟩)
    rw [List.append_assoc, List.cons_append]; exact h1
   have hVw := hJV _ _ HJJ.out; have hnY3 : ¬ fr bx W3 yb := fun hf => HKp.out.notfr (za9 HY2.out) hnY2.out (fr.below hbx hBw hb3 hf)
   have hnD3 : ¬ fr bx W3 db := fun hf => HKp.out.notfr (za9 HD2.out) hnD2.out (fr.below hbx hBw hb3 hf)
   have hnX3 := zaa.mk (show ¬ fr bx W3 wr.heap.size from fun hf => by have := hVw _ (fr.below hbx hBw hb3 hf); omega)
   have hcall := IH.out (.node k1 w1 wd1 A1 c1 kids1) hszk hTk f' (wrap64 (d + 1)) (n - 1) (pre ++ x :: ys) W3 yb db (by rw [hn0]; exact hlow2.trans (hb3.mono hlow2.size)) (Nat.le_trans hBw hs3) hyb hdb hnY3 hnD3 (zaX HY3.out hb3) (zaX HD3.out hb3) (hJ _ wr W3 hBw HJJ.out hb3) hlen
   simp only [AT.val, AT.k, AT.w, AT.wd, AT.A, AT.c, AT.kids] at hcall; have HCALL := zaa.mk hcall; have hbox3 : W3.heap[wr.heap.size]? = some (.cells #[.int .u8 k1, .int .u8 w1, .int .i64 wd1, .slice A1 kids1.length c1] 25 (0, 0)) := by rw [hW3]; exact heap_alloc_new wr _
   have HB3 := zaa.mk hbox3; obtain ⟨q0, q1, q2, q3⟩ := g'; simp only [AT.k, AT.w, AT.wd, AT.A, AT.c, AT.kids] at q0 q1 q2 q3; have kd := zaf HD3.out 0; simp at kd; have hbdw := za9 HD3.out; have HKP3 := zaa.mk (HKp.out.trans (Kp.of_below hbx (Nat.le_trans hB hBw) hBw hb3)); clear hcall hbox3 hVw hnY3 hnD3 HP g hTk hszk HKp HJJ hTe
   gi_wp2
   refine ⟨trivial, fun h => (by cases h), ?_⟩
   rw [← hW3]; refine HCALL.out.mono ?_
   clear HCALL kd q0 q1 q2 q3 hW3; rintro e W4 (⟨rfl, hk4, hs4, zs, hz4, hj4⟩ | ⟨rfl, zs, hz4, hx4⟩)
   ·have kb := zaf (hk4.high _ _ _ _ hBw hnX3.out HB3.out) 2
    simp at kb; have HK4 := zaa.mk (HKP3.out.trans hk4); have HJ4 := zaa.mk hj4; have HZ4 := zaa.mk hz4; clear hk4 hj4 hz4
    gi_wp2
    gi_roundg (kids.length - (i + 1))
    case measure => have := HK.out; omega
    case rel =>
     have hm : kids.length ≤ 9223372036854775807 := by simp only [AtT] at hU; exact hU.2.1
     exact ⟨i + 1, wrap64 (f' + wd1), ys ++ zs, by rw [show wrap64 ((i : Int) + 1) = ((i + 1 : Nat) : Int) by unfold wrap64; omega], rfl, by omega, ⟨rfl⟩, HK4, by omega, ⟨by simpa using HJ4.out⟩, ⟨by rw [HP2.out, List.map_append, HZ4.out, List.append_assoc]; rfl⟩⟩
   ·have HZ4 := zaa.mk hz4
    have HX4 := zaa.mk hx4; clear hz4 hx4
    gi_wp2
    go_ret
    refine .inr ⟨rfl, x :: (ys ++ zs), ?_, by simpa using HX4.out⟩
    obtain ⟨q, hq⟩ := HZ4.out; refine ⟨q ++ preL (kids.drop (i + 1)) (wrap64 (f' + wd1)) d, ?_⟩
    rw [List.map_cons, HX.out, AT.pre, HP2.out, ← hq, List.map_append]; simp [AT.wd]
  ·have d1 : decide ((i : Int) < (kids.length : Int)) = false := decide_eq_false (by omega)
   obtain rfl : i = kids.length := by omega
   gi_wp2
   go_ret
   refine .inl ⟨rfl, HK2.out.trans HKp.out, Nat.le_trans HS2.out hsz, x :: ys, ?_, HJJ.out⟩
   rw [List.map_cons, HX.out, AT.pre, HP.out, List.drop_length, preL, List.append_nil]
end
def AT.all (T : AT) : List (AT × Int × Int) := if okB T.erase then T.pre 0 0 else []
theorem zbF {α : Type} {base : Nat} {J : List α → World → Prop} (h : OwnFrom base J) (s : List α) (W W' : World) (hJ : J s W) (hb : Below W.heap.size W W') : J s W' :=
 h s W W' none hJ ⟨hb.os, hb.tape, hb.output, hb.size, fun k hk _ => hb.block k hk⟩ (fun r hr => by cases hr)
set_option maxHeartbeats 4000000 in
set_option maxRecDepth 100000 in
theorem all_stops (W0 : World) (n0 B : Nat) (hn0 : n0 = W0.heap.size) (hB : n0 ≤ B) (bx : List Nat) (hbx : ∀ b ∈ bx, b < B) (nb : Nat) (T : AT) (w : World) (hT : AtT W0 T) (hlow : Below n0 W0 w) (hBw : B ≤ w.heap.size) (hnb : w.heap[nb]? = some (.cells #[.int .u8 T.k, .int .u8 T.w, .int .i64 T.wd, .slice T.A T.kids.length T.c] 25 (0, 0))) :
  SeqStopsO Try.prog 61 #[.pointer (some ⟨nb, 0, none⟩)] (fun x : Told W0 => #[seenV x.1]) (Kp n0 B bx) (Valid bx) (fun ys => ys.map (·.1) = T.all) (fun pre => pre.map (·.1) <+: T.all) w := by
 intro n l J Jx W hW hJ hJx hJV hY h0
 have hnbW := zaX hnb hW; have hlowW : Below n0 W0 W := hlow.trans (hW.mono (by rw [hn0]; have := hlow.size; exact this))
 have hBW : B ≤ W.heap.size := Nat.le_trans hBw hW.size; obtain ⟨W1, hW1⟩ : ∃ W1, W1 = W.alloc (.cells #[.func (.yield l) #[] #[]] 102) := ⟨_, rfl⟩; have hb1 : Below W.heap.size W W1 := by rw [hW1]; exact zad (Below.refl _ _) _
 have hyb : W1.heap[W.heap.size]? = some (one1 (.func (.yield l) #[] #[]) 102) := by rw [hW1]; exact heap_alloc_new W _
 have hnb1 := zaX hnbW hb1; have hT1 : AtT W1 T := AtT.below ((hn0 ▸ hlowW : Below W0.heap.size W0 W).trans (hb1.mono (by have := (hn0 ▸ hlowW : Below W0.heap.size W0 W).size; exact this))) T hT
 have hC := C_of_AT _ T (Nat.lt_succ_self _) W1 hT1; obtain ⟨k, w1, wd, A, c, kids⟩ := T; simp only [AT.k, AT.w, AT.wd, AT.A, AT.c, AT.kids] at hnb1 hC ⊢; have hle : (eraseL kids).length ≤ c := by rw [zbA]; simp only [AtT] at hT; exact hT.1
 have hright := tree_Right.calls k w1 wd A c (eraseL kids) (okB ⟨k, w1, wd, eraseL kids⟩) W1 (by rw [zbA]; exact hC) hle (right_prog _ _ _ _)
 rw [zbA] at hright; have HRIGHT := zaa.mk hright; have HYB := zaa.mk hyb; have HNB := zaa.mk hnb1; have HJ0 := zaa.mk (zbF hJ [] W W1 h0 hb1); have HB1 := zaa.mk hb1; have HT := zaa.mk hT; have k0 := zaf hnbW 0; have k1 := zaf hnbW 1; have k2 := zaf hnbW 2; have k3 := zaf hnbW 3; simp [AT.k, AT.w, AT.wd, AT.A, AT.c, AT.kids] at k0 k1 k2 k3; have hlt := za9 hnbW; have hu := Try.underlying25; clear hright hyb hnb1 hb1 hC hT1 hnb hnbW; refine callsIn_of_wp Try.func61 rfl trivial ?_ rfl
 simp only [Try.ntmps61, List.size_toArray, List.length_cons, List.length_nil, Nat.reduceAdd, Nat.reduceSub, Array.replicate_succ, Array.replicate_zero, List.push_toArray, List.append_toArray, List.nil_append, List.cons_append]
 gi_wp2
 refine ⟨trivial, fun h => (by cases h), ?_⟩
 rw [← hW1]; refine (callsIn_wide.2 HRIGHT.out).mono ?_
 rintro e W2 ⟨rfl, hb2⟩
 have HYB2 := zaa.mk (zaX HYB.out hb2); have hnb2 := zaX HNB.out hb2; have HJ2 := zaa.mk (hJ _ _ _ none HJ0.out ⟨hb2.os, hb2.tape, hb2.output, hb2.size, fun k hk _ => hb2.block k hk⟩ (fun r hr => by cases hr))
 have HB2 := zaa.mk (zaG HB1.out hb2); have hlt2 := za9 hnb2; have hyb2 := za9 HYB2.out; clear hb2 HYB HNB HJ0 HB1 HRIGHT hW1 k0 k1 k2 k3 hlt; cases hok : okB ⟨k, w1, wd, eraseL kids⟩ with
 | false =>
  gi_wp2
  refine bodyPost_ret (results_none rfl _ _ _) rfl ?_
  exact ⟨⟨_, rfl⟩, .inl ⟨[], by rw [AT.all, AT.erase, hok]; rfl, HJ2.out⟩⟩
 | true =>
  have k0 := zaf hnb2 0; have k1 := zaf hnb2 1; have k2 := zaf hnb2 2; have k3 := zaf hnb2 3; simp at k0 k1 k2 k3; have hall : (AT.node k w1 wd A c kids).all = (AT.node k w1 wd A c kids).pre 0 0 := by rw [AT.all, AT.erase, hok, if_pos rfl]
  rw [hall] at hY; obtain ⟨W3, hW3⟩ : ∃ W3, W3 = W2.alloc (.cells #[downV W.heap.size W2.heap.size] 103) := ⟨_, rfl⟩; have hb3 : Below W2.heap.size W2 W3 := by rw [hW3]; exact zad (Below.refl _ _) _
  have hdb : W3.heap[W2.heap.size]? = some (one1 (downV W.heap.size W2.heap.size) 103) := by rw [hW3]; exact heap_alloc_new W2 _
  have hcall := down_in W0 n0 B bx l _ J Jx hn0 hB hbx hJV (fun s W W' _ h hb => zbF hJ s W W' h hb) hY _ (.node k w1 wd A c kids) (Nat.lt_succ_self _) HT.out 0 0 (n - 1) [] W3 W.heap.size W2.heap.size
   (hlowW.trans ((zaG HB2.out hb3).mono (by rw [hn0]; have := hlowW.size; omega))) (by have := HB2.out.size; have := hb3.size; omega) hBW (by have := HB2.out.size; omega) (fun hf => by have h1 := fr.below hbx (by have := HB2.out.size; omega) hb3 hf; have h2 := hJV _ _ h0 _ (fr.below hbx hBW HB2.out h1); omega) (fun hf => by have h1 := fr.below hbx (by have := HB2.out.size; omega) hb3 hf; have h2 := hJV _ _ HJ2.out _ h1; omega) (zaX HYB2.out hb3) hdb (zbF hJ [] W2 W3 HJ2.out hb3) (fun ys hy => by rw [List.nil_append]; exact hy)
  simp only [AT.val, AT.k, AT.w, AT.wd, AT.A, AT.c, AT.kids, List.nil_append] at hcall; have HCALL := zaa.mk hcall; clear hcall hnb2 hb3 hdb
  gi_wp2
  refine ⟨trivial, fun h => (by cases h), ?_⟩
  change CallsIn Fence.wide (n - 1) Try.prog 63 _ (W2.alloc (.cells #[downV W.heap.size W2.heap.size] 103)) _
  rw [← hW3]; refine HCALL.out.mono ?_
  clear HCALL k0 k1 k2 k3 hW3; rintro e W4 (⟨rfl, _, _, zs, hz, hj⟩ | ⟨rfl, zs, hz, hx⟩)
  ·gi_wp2
   go_end0
   exact ⟨⟨_, rfl⟩, .inl ⟨zs, by rw [hall]; exact hz, hj⟩⟩
  ·gi_wp2
   go_end0
   exact ⟨⟨_, rfl⟩, .inr ⟨zs, by rw [hall]; exact hz, hx⟩⟩
abbrev boxN (k w wd : Int) (A : Option Addr) (n c : Nat) : Obj := .cells #[.int .u8 k, .int .u8 w, .int .i64 wd, .slice A n c] 25 (0, 0)
set_option maxHeartbeats 1000000 in
theorem all_in (n : Nat) (k w1 wd : Int) (A : Option Addr) (m c : Nat) (w : World) :
  CallsIn Fence.wide n Try.prog 52 #[.agg #[.int .u8 k, .int .u8 w1, .int .i64 wd, .slice A m c]] w fun e w' => e = .returned (.func (.func 61) #[] #[.pointer (some ⟨w.heap.size, 0, none⟩)]) ∧ w' = w.alloc (boxN k w1 wd A m c) := by
 refine callsIn_of_wp Try.func52 rfl trivial ?_ rfl
 simp only [Try.ntmps52, List.size_toArray, List.length_cons, List.length_nil, Nat.reduceAdd, Nat.reduceSub, Array.replicate_succ, Array.replicate_zero, List.push_toArray, List.append_toArray, List.nil_append, List.cons_append]
 gi_wp2
 go_ret
 exact ⟨rfl, rfl⟩
set_option maxHeartbeats 1000000 in
theorem walkF_in (n : Nat) (k w1 wd : Int) (A : Option Addr) (m c : Nat) (w : World) :
  CallsIn Fence.wide n Try.prog 42 #[.agg #[.int .u8 k, .int .u8 w1, .int .i64 wd, .slice A m c]] w fun e w' => e = .returned (.func (.func 51) #[] #[.pointer (some ⟨w.heap.size, 0, none⟩)]) ∧ w' = w.alloc (boxN k w1 wd A m c) := by
 refine callsIn_of_wp Try.func42 rfl trivial ?_ rfl
 simp only [Try.ntmps42, List.size_toArray, List.length_cons, List.length_nil, Nat.reduceAdd, Nat.reduceSub, Array.replicate_succ, Array.replicate_zero, List.push_toArray, List.append_toArray, List.nil_append, List.cons_append]
 gi_wp2
 go_ret
 exact ⟨rfl, rfl⟩
theorem OwnFrom.le {β : Type} {B C : Nat} {I : β → World → Prop} (h : OwnFrom B I) (hBC : B ≤ C) : OwnFrom C I := fun s W W' row hs hg hr => h s W W' row hs hg (fun r e => ⟨by have := (hr r e).1; omega, (hr r e).2⟩)
theorem Kp.le {n0 B C : Nat} {bx : List Nat} {W W' : World} (h : Kp n0 B bx W W') (hBC : B ≤ C) : Kp n0 C bx W W' := ⟨h.low, fun k cs t fz hk hn hc => h.high k cs t fz (by omega) hn hc, h.own, fun k o hk ho hc => h.rest k o (by omega) ho hc⟩
theorem own_cells {β : Type} {B : Nat} {k : Nat} {cs : Array Value} {t : TypeId} {fz : Nat × Nat} : OwnFrom B (fun (_ : β) W => W.heap[k]? = some (.cells cs t fz)) := fun s W W' row hs hg hr =>
 (hg.block k (za9 hs) (fun e => by obtain ⟨_, o, ho, hc⟩ := hr k e.symm; rw [hs] at ho; cases ho; cases hc)).trans hs
theorem cell_eq {W W' : World} {b : Nat} {o : Nat} (h : W'.heap[b]? = W.heap[b]?) : W'.cell? ⟨b, o, none⟩ = W.cell? ⟨b, o, none⟩ := by
 unfold World.cell?
 simp only [h]
def spanV (x : AT × Int × Int) : Value := .agg #[.int .i64 x.2.1, .int .i64 (wrap64 (x.2.1 + x.1.wd))]
set_option maxHeartbeats 4000000 in
set_option maxRecDepth 100000 in
theorem walk_stops (W0 : World) (n0 B : Nat) (hn0 : n0 = W0.heap.size) (hB : n0 ≤ B) (bx : List Nat) (hbx : ∀ b ∈ bx, b < B) (nb : Nat) (T : AT) (w : World) (hT : AtT W0 T) (hlow : Below n0 W0 w) (hnb : w.heap[nb]? = some (boxN T.k T.w T.wd T.A T.kids.length T.c)) :
  SeqStopsO Try.prog 51 #[.pointer (some ⟨nb, 0, none⟩)] (fun x : Told W0 => #[spanV x.1, x.1.1.val]) (Kp n0 B bx) (fun W => Valid bx W ∧ B + 2 ≤ W.heap.size) (fun ys => ys.map (·.1) = T.all) (fun pre => pre.map (·.1) <+: T.all) w := by
 intro n l J Jx W hW hJ hJx hJV0 hY h0
 have hJV : ∀ pre W, J pre W → Valid bx W := fun pre W h => (hJV0 pre W h).1
 have hnbW := zaX hnb hW; have hlowW : Below n0 W0 W := hlow.trans (hW.mono (by rw [hn0]; have := hlow.size; exact this))
 have hBW : B + 2 ≤ W.heap.size := (hJV0 _ _ h0).2; clear hJV0; obtain ⟨W1, hW1⟩ : ∃ W1, W1 = W.alloc (.cells #[.func (.yield l) #[] #[]] 92) := ⟨_, rfl⟩; have hb1 : Below W.heap.size W W1 := by rw [hW1]; exact zad (Below.refl _ _) _
 have hyb : W1.heap[W.heap.size]? = some (one1 (.func (.yield l) #[] #[]) 92) := by rw [hW1]; exact heap_alloc_new W _
 have k0 := zaf hnbW 0; have k1 := zaf hnbW 1; have k2 := zaf hnbW 2; have k3 := zaf hnbW 3; simp at k0 k1 k2 k3; have hlt := za9 hnbW; have hu := Try.underlying25; obtain ⟨W2, hW2⟩ : ∃ W2, W2 = W1.alloc (boxN T.k T.w T.wd T.A T.kids.length T.c) := ⟨_, rfl⟩; have hb2 : Below W1.heap.size W1 W2 := by rw [hW2]; exact zad (Below.refl _ _) _
 have hnb2 : W2.heap[W1.heap.size]? = some (boxN T.k T.w T.wd T.A T.kids.length T.c) := by rw [hW2]; exact heap_alloc_new W1 _
 have hbW2 := zaG hb1 hb2; have hs1 : W1.heap.size = W.heap.size + 1 := by rw [hW1]; simp
 have hs2 : W2.heap.size = W.heap.size + 2 := by rw [hW2, World.size_alloc, hs1]
 refine callsIn_of_wp_marks Try.func51 rfl trivial ?_ rfl
 simp only [Try.ntmps51, List.size_toArray, List.length_cons, List.length_nil, Nat.reduceAdd, Nat.reduceSub, Array.replicate_succ, Array.replicate_zero, List.push_toArray, List.append_toArray, List.nil_append, List.cons_append]
 gi_wp2
 refine ⟨trivial, fun h => (by cases h), ?_⟩
 rw [← hW1]; refine (all_in _ _ _ _ _ _ _ _).mono ?_
 rintro e w' ⟨rfl, rfl⟩
 rw [← hW2]; have HYB := zaa.mk (zaX hyb hb2); have HJ0 := zaa.mk (zbF hJ [] W W2 h0 hbW2); have HL2 := zaa.mk (hlowW.trans (hbW2.mono (by omega)))
 have HNB := zaa.mk hnb2; have HBW2 := zaa.mk hbW2; have h0' := h0; have HY := zaa.mk hY; have HS1 := zaa.mk hs1; have HS2 := zaa.mk hs2; clear k0 k1 k2 k3 hnb2 hyb hY h0 hW1 hW2 hs1 hs2
 gi_wp2
 refine rangeO (w := W2) (gf := 61) (lb := #[.pointer (some ⟨W1.heap.size, 0, none⟩)]) rfl (enters_of Try.func61 (by kernel_rfl) rfl)
  (all_stops W0 n0 W2.heap.size hn0 (by have := HS2.out; omega) bx (fun b hb => by have := hbx b hb; have := HS2.out; omega) W1.heap.size T W2 hT HL2.out (Nat.le_refl _) HNB.out)
  (fun h k => Kp.trans h k) (fun W o o' h hc => Kp.record (fun b hb => by have := hbx b hb; have := HS2.out; omega) (by have := HS2.out; omega) W o o' h hc) (Below.refl _ _) (fun _ => rfl)
  (fun pre X => J pre X ∧ (X.heap[W.heap.size]? = some (one1 (.func (.yield l) #[] #[]) 92) ∧ ¬ fr bx X W.heap.size) ∧ W2.heap.size ≤ X.heap.size)
  (fun c pre X => c = .ret ∧ Jx pre X)
  (fun s A B row hs hg hr => ⟨(OwnFrom.le hJ (by have := HS2.out; omega)) s A B row hs.1 hg hr, ⟨own_cells s A B row hs.2.1.1 hg hr, fun hf => hs.2.1.2 (by
   obtain ⟨b, hb, v, hv, ho⟩ := hf; refine ⟨b, hb, v, ?_, ho⟩
   have hlt := hbx b hb; have h2 : B.heap[b]? = A.heap[b]? := hg.block b (by have := HS2.out; have := hs.2.2; omega) (fun e => by have := (hr b e.symm).1; have := HS2.out; omega)
   rw [← cell_eq h2]; exact hv)⟩, Nat.le_trans hs.2.2 hg.size⟩)
  (fun c s A B row hs hg hr => ⟨hs.1, (OwnFrom.le hJx (by have := HS2.out; omega)) s A B row hs.2 hg hr⟩)
  (fun pre X h => hJV pre X h.1)
  (fun Wq hbq _ => ⟨zbF hJ [] W2 Wq HJ0.out hbq, ⟨zaX HYB.out hbq, fun hf => by have := hJV _ _ h0' _ (fr.below hbx (by omega) HBW2.out (fr.below hbx (by have := HS2.out; omega) hbq hf)); omega⟩, hbq.size⟩)
  (fun x a' Ws X => ∃ b, W2.heap.size ≤ b ∧ X.heap[b]? = some (.cells #[.int .u8 x.1.1.k, .int .u8 x.1.1.w, .int .i64 x.1.1.wd, .slice x.1.1.A x.1.1.kids.length x.1.1.c, .int .i64 x.1.2.1, .int .i64 (wrap64 (x.1.2.1 + x.1.1.wd)), .int .i64 x.1.2.2] 97 (0, 0)) ∧
   a' = { tmps := #[.func (.yield l) #[] #[], .pointer (some ⟨nb, 0, none⟩), .pointer (some ⟨W.heap.size, 0, none⟩), .pointer (some ⟨b, 0, none⟩), .agg #[.int .u8 T.k, .int .u8 T.w, .int .i64 T.wd, .slice T.A T.kids.length T.c], .func (.func 61) #[] #[.pointer (some ⟨W1.heap.size, 0, none⟩)], seenV x.1, undef, undef, undef, undef, undef, undef, undef], defers := [] })
  (fun x a' Ws s A B row hs hg hr => by
   obtain ⟨b, h1, h2, h3⟩ := hs; exact ⟨b, h1, own_cells () A B row h2 hg hr, h3⟩) ?assign ?body ?done ?stop
 case assign =>
  intro l' pre x X C hlt' hi hC
  simp only [seenV]; have hup : Below X.heap.size X (X.alloc (.cells #[.int .u8 x.1.1.k, .int .u8 x.1.1.w, .int .i64 x.1.1.wd, .slice x.1.1.A x.1.1.kids.length x.1.1.c, .int .i64 x.1.2.1, .int .i64 (wrap64 (x.1.2.1 + x.1.1.wd)), .int .i64 x.1.2.2] 97)) := zad (Below.refl _ _) _; have HUP := zaa.mk hup; have HI := zaa.mk hi; clear hup hi
  gi_wp2
  refine hC _ _ ⟨HUP.out.size, fun k o _ ho _ => (HUP.out.block k (Array.getElem?_eq_some_iff.1 ho).1).trans ho⟩ (Kp.of_below (fun b hb => by have := hbx b hb; have := HS2.out; omega) (by have := HS2.out; omega) (by omega) HUP.out) ⟨zbF hJ pre X _ HI.out.1 HUP.out, ⟨zaX HI.out.2.1.1 HUP.out, fun hf => HI.out.2.1.2 (fr.below hbx (by have := HS2.out; omega) HUP.out hf)⟩, Nat.le_trans HI.out.2.2 HUP.out.size⟩ ⟨X.heap.size, HI.out.2.2, heap_alloc_new X _, rfl⟩
 case body =>
  rintro l' pre x a' Xs X hsX _ ⟨hj, ⟨hyX, hnX⟩, hszX⟩ hKX ⟨b, hb, hblk, rfl⟩ hlen
  obtain ⟨fn, tmps, assign, body, hyr, hR⟩ := HY.out (n - 1) pre x X hj hlen; simp only [spanV, AT.val] at hyr; have HR := zaa.mk hR; have HHY := zaa.mk hyX; have q0 := zaf hblk 0; have q1 := zaf hblk 1; have q2 := zaf hblk 2; have q3 := zaf hblk 3; have q4 := zaf hblk 4; have q5 := zaf hblk 5; have ky := zaf hyX 0; simp at q0 q1 q2 q3 q4 q5 ky; have hus := Try.underlying97; have hup := Try.underlying42; clear hR hyX hblk; simp only [seenV]
  gi_wp2
  refine ⟨fun h => (by cases h), ?_⟩
  refine (show RoundIn (Fence.wide.inRound l') (n - 1) _ _ _ _ _ _ _ _ from HR.out).mono ?_
  clear q0 q1 q2 q3 q4 q5 ky; have hBX : B + 2 ≤ W2.heap.size := by have := HS2.out; omega
  rintro e X' (⟨rfl, hj', hk'⟩ | ⟨rfl, hx', hk'⟩)
  ·have HJ' := zaa.mk hj'
   have HK' := zaa.mk hk'; clear hj' hk'
   gi_wp2
   exact ⟨HK'.out.keeps hBX, hKX.trans (HK'.out.le (by omega)), HJ'.out, ⟨HK'.out.high _ _ _ _ (by omega) hnX HHY.out, HK'.out.notfr (za9 HHY.out) hnX⟩, Nat.le_trans hszX HK'.out.low.size⟩
  ·have HJ' := zaa.mk hx'
   have HK' := zaa.mk hk'; clear hx' hk'
   gi_wp2
   exact ⟨HK'.out.keeps hBX, hKX.trans (HK'.out.le (by omega)), rfl, HJ'.out⟩
 case done =>
  rintro xs X hS ⟨hj, _, _⟩ hD
  have HD := zaa.mk hD; clear hD
  gi_wp2
  refine ⟨by simp, .inl ⟨_, _, rfl, run_takeDeferred HD.out, ?_⟩⟩
  exact ⟨_, results_none rfl _ _ _, ⟨_, rfl⟩, .inl ⟨xs, hS, (OwnFrom.le hJ (by have := HS2.out; omega)).putObj (B := W2.heap.size) _ hj (Nat.le_refl _) HD.out rfl⟩⟩
 case stop =>
  rintro c pre X hS ⟨rfl, hj⟩ hD
  have HD := zaa.mk hD; clear hD
  gi_wp2
  refine ⟨by simp, .inl ⟨_, _, rfl, run_takeDeferred HD.out, ?_⟩⟩
  exact ⟨_, results_none rfl _ _ _, ⟨_, rfl⟩, .inr ⟨pre, hS, (OwnFrom.le hJx (by have := HS2.out; omega)).putObj (B := W2.heap.size) _ hj (Nat.le_refl _) HD.out rfl⟩⟩
def zbE (k : Int) : Bool := k == 50 || k == 68 || k == 5 || k == 9 || k == 4
def wantOf (k w : Int) : Int := if k = 50 then w else 0
def faultV (x : AT × Int × Int) : Value := .agg #[.int .i64 x.2.1, .int .i64 (wrap64 (x.2.1 + x.1.wd)), .int .u8 x.1.k, .int .u8 (wantOf x.1.k x.1.w)]
set_option maxHeartbeats 1000000 in
theorem each_in (n : Nat) (k w1 wd : Int) (A : Option Addr) (m c : Nat) (w : World) :
  CallsIn Fence.wide n Try.prog 20 #[.agg #[.int .u8 k, .int .u8 w1, .int .i64 wd, .slice A m c]] w fun e w' => e = .returned (.func (.func 41) #[] #[.pointer (some ⟨w.heap.size, 0, none⟩)]) ∧ w' = w.alloc (boxN k w1 wd A m c) := by
 refine callsIn_of_wp Try.func20 rfl trivial ?_ rfl
 simp only [Try.ntmps20, List.size_toArray, List.length_cons, List.length_nil, Nat.reduceAdd, Nat.reduceSub, Array.replicate_succ, Array.replicate_zero, List.push_toArray, List.append_toArray, List.nil_append, List.cons_append]
 gi_wp2
 go_ret
 exact ⟨rfl, rfl⟩
set_option maxHeartbeats 4000000 in
set_option maxRecDepth 100000 in
theorem each_stops (W0 : World) (n0 B : Nat) (hn0 : n0 = W0.heap.size) (hB : n0 ≤ B) (bx : List Nat) (hbx : ∀ b ∈ bx, b < B) (nb : Nat) (T : AT) (w : World) (hT : AtT W0 T) (hlow : Below n0 W0 w) (hnb : w.heap[nb]? = some (boxN T.k T.w T.wd T.A T.kids.length T.c)) :
  SeqStopsO Try.prog 41 #[.pointer (some ⟨nb, 0, none⟩)] (fun x : Told W0 => #[faultV x.1]) (Kp n0 B bx) (fun W => Valid bx W ∧ B + 2 ≤ W.heap.size) (fun ys => ys.map (·.1) = T.all.filter fun x => zbE x.1.k) (fun pre => pre.map (·.1) <+: T.all.filter fun x => zbE x.1.k) w := by
 intro n l J Jx W hW hJ hJx hJV0 hY h0
 have hJV : ∀ pre W, J pre W → Valid bx W := fun pre W h => (hJV0 pre W h).1
 have hnbW := zaX hnb hW; have hlowW : Below n0 W0 W := hlow.trans (hW.mono (by rw [hn0]; have := hlow.size; exact this))
 have hBW : B + 2 ≤ W.heap.size := (hJV0 _ _ h0).2; clear hJV0; obtain ⟨W1, hW1⟩ : ∃ W1, W1 = W.alloc (.cells #[.func (.yield l) #[] #[]] 78) := ⟨_, rfl⟩; have hb1 : Below W.heap.size W W1 := by rw [hW1]; exact zad (Below.refl _ _) _
 have hyb : W1.heap[W.heap.size]? = some (one1 (.func (.yield l) #[] #[]) 78) := by rw [hW1]; exact heap_alloc_new W _
 have k0 := zaf hnbW 0; have k1 := zaf hnbW 1; have k2 := zaf hnbW 2; have k3 := zaf hnbW 3; simp at k0 k1 k2 k3; have hlt := za9 hnbW; have hu := Try.underlying25; obtain ⟨W2, hW2⟩ : ∃ W2, W2 = W1.alloc (boxN T.k T.w T.wd T.A T.kids.length T.c) := ⟨_, rfl⟩; have hb2 : Below W1.heap.size W1 W2 := by rw [hW2]; exact zad (Below.refl _ _) _
 have hnb2 : W2.heap[W1.heap.size]? = some (boxN T.k T.w T.wd T.A T.kids.length T.c) := by rw [hW2]; exact heap_alloc_new W1 _
 have hbW2 := zaG hb1 hb2; have hs1 : W1.heap.size = W.heap.size + 1 := by rw [hW1]; simp
 have hs2 : W2.heap.size = W.heap.size + 2 := by rw [hW2, World.size_alloc, hs1]
 refine callsIn_of_wp_marks Try.func41 rfl trivial ?_ rfl
 simp only [Try.ntmps41, List.size_toArray, List.length_cons, List.length_nil, Nat.reduceAdd, Nat.reduceSub, Array.replicate_succ, Array.replicate_zero, List.push_toArray, List.append_toArray, List.nil_append, List.cons_append]
 gi_wp2
 refine ⟨trivial, fun h => (by cases h), ?_⟩
 rw [← hW1]; refine (walkF_in _ _ _ _ _ _ _ _).mono ?_
 rintro e w' ⟨rfl, rfl⟩
 rw [← hW2]; have HYB := zaa.mk (zaX hyb hb2); have HJ0 := zaa.mk (zbF hJ [] W W2 h0 hbW2); have HL2 := zaa.mk (hlowW.trans (hbW2.mono (by omega)))
 have HNB := zaa.mk hnb2; have HBW2 := zaa.mk hbW2; have h0' := h0; have HY := zaa.mk hY; have HS1 := zaa.mk hs1; have HS2 := zaa.mk hs2; have HBW := zaa.mk hBW; clear k0 k1 k2 k3 hnb2 hyb hY h0 hW1 hW2 hs1 hs2 hBW
 gi_wp2
 refine rangeF (w := W2) (gf := 51) (lb := #[.pointer (some ⟨W1.heap.size, 0, none⟩)]) rfl (enters_of Try.func51 (by kernel_rfl) rfl)
  (walk_stops W0 n0 W2.heap.size hn0 (by have := HS2.out; have := HBW.out; omega) bx (fun b hb => by have := hbx b hb; have := HS2.out; have := HBW.out; omega) W1.heap.size T W2 hT HL2.out HNB.out)
  (fun h k => Kp.trans h k) (fun W o o' h hc => Kp.record (fun b hb => by have := hbx b hb; have := HS2.out; have := HBW.out; omega) (by have := HS2.out; have := HBW.out; omega) W o o' h hc) (Below.refl _ _) (fun _ => rfl)
  (fun pre X => J (pre.filter fun x => zbE x.1.1.k) X ∧ (X.heap[W.heap.size]? = some (one1 (.func (.yield l) #[] #[]) 78) ∧ ¬ fr bx X W.heap.size) ∧ W2.heap.size + 2 ≤ X.heap.size)
  (fun c pre X => c = .ret ∧ Jx (pre.filter fun x => zbE x.1.1.k) X)
  (fun s A B row hs hg hr => ⟨(OwnFrom.le hJ (by have := HS2.out; omega)) _ A B row hs.1 hg hr, ⟨own_cells s A B row hs.2.1.1 hg hr, fun hf => hs.2.1.2 (by
   obtain ⟨b, hb, v, hv, ho⟩ := hf; refine ⟨b, hb, v, ?_, ho⟩
   have hlt := hbx b hb; have h2 : B.heap[b]? = A.heap[b]? := hg.block b (by have := HS2.out; have := HBW.out; have := hs.2.2; omega) (fun e => by have := (hr b e.symm).1; have := HS2.out; have := HBW.out; omega)
   rw [← cell_eq h2]; exact hv)⟩, Nat.le_trans hs.2.2 hg.size⟩)
  (fun c s A B row hs hg hr => ⟨hs.1, (OwnFrom.le hJx (by have := HS2.out; omega)) _ A B row hs.2 hg hr⟩)
  (fun pre X h => ⟨hJV _ X h.1, h.2.2⟩)
  (fun Wq hbq hsq => ⟨zbF hJ [] W2 Wq HJ0.out hbq, ⟨zaX HYB.out hbq, fun hf => by have := hJV _ _ h0' _ (fr.below hbx (by have := HBW.out; omega) HBW2.out (fr.below hbx (by have := HS2.out; have := HBW.out; omega) hbq hf)); omega⟩, hsq⟩)
  ?round ?done ?stop
 case round =>
  rintro l' pre ⟨⟨⟨nk, nw, nwd, nA, nc, nkids⟩, f, d⟩, hTn⟩ X C hX ⟨hj, ⟨hyX, hnX⟩, hszX⟩ hp hC
  obtain ⟨xx, hxx⟩ : ∃ xx : Told W0, xx = ⟨(AT.node nk nw nwd nA nc nkids, f, d), hTn⟩ := ⟨_, rfl⟩; have HXX := zaa.mk (show xx.1 = (AT.node nk nw nwd nA nc nkids, f, d) by rw [hxx])
  have HC := zaa.mk hC; have HP := zaa.mk hp; rw [← hxx] at HC HP; obtain ⟨X2, hX2⟩ : ∃ X2, X2 = (X.alloc (.cells #[.int .i64 f, .int .i64 (wrap64 (f + nwd))] 42)).alloc (boxN nk nw nwd nA nkids.length nc) := ⟨_, rfl⟩; have hbx2 : Below X.heap.size X X2 := by rw [hX2]; exact Below.alloc (zad (Below.refl _ _) _) (by simp) _
  have h15 : X2.heap[X.heap.size + 1]? = some (boxN nk nw nwd nA nkids.length nc) := by
   rw [hX2]; have := heap_alloc_new (X.alloc (.cells #[.int .i64 f, .int .i64 (wrap64 (f + nwd))] 42)) (boxN nk nw nwd nA nkids.length nc)
   simpa using this
  have h14 : X2.heap[X.heap.size]? = some (.cells #[.int .i64 f, .int .i64 (wrap64 (f + nwd))] 42 (0, 0)) := by
   rw [hX2, Below.heap_alloc _ _ _ (by simp)]
   exact heap_alloc_new X _
  have HBX := zaa.mk hbx2; have H14 := zaa.mk h14; have H15 := zaa.mk h15; have HX2 := zaa.mk hX2; have HI := zaa.mk (And.intro hj (And.intro (And.intro hyX hnX) hszX)); have hus := Try.underlying42; have huf := Try.underlying44; clear hC hp hxx hbx2 h14 h15 hX2 hj hyX hnX; simp only [spanV, AT.val, AT.k, AT.w, AT.wd, AT.A, AT.c, AT.kids]
  gi_wp2
  rw [← HX2.out]; have hBX2 : B + 2 ≤ W2.heap.size := by have := HS2.out; have := HBW.out; omega
  refine HC.out _ _ ⟨HBX.out.size, fun q o _ ho _ => (HBX.out.block q (Array.getElem?_eq_some_iff.1 ho).1).trans ho⟩ (Kp.of_below (fun b hb => by have := hbx b hb; omega) (by omega) (by omega) HBX.out) ⟨zbF hJ _ X _ HI.out.1 HBX.out, ⟨zaX HI.out.2.1.1 HBX.out, fun hf => HI.out.2.1.2 (fr.below hbx (by omega) HBX.out hf)⟩, Nat.le_trans HI.out.2.2 HBX.out.size⟩ (fun Wb hKb hIb hcells hszb => ?_)
  obtain ⟨hjb, ⟨hyb, hnb'⟩, hsb⟩ := hIb; have hw14 := hcells _ _ _ _ H14.out; have hw15 := hcells _ _ _ _ H15.out; have m2 := zaf hw14 0; have m3 := zaf hw14 1; have m4 := zaf hw15 0; have m5 := zaf hw15 1; have m6 := zaf hw15 2; have m7 := zaf hw15 3; have my := zaf hyb 0; have my2 := za9 hyb; have mb := za9 hw14; have mb2 := za9 hw15; simp at m2 m3 m4 m5 m6 m7 my; have HKB := zaa.mk hKb; have HJB := zaa.mk hjb; have HYBb := zaa.mk hyb; have HNBb := zaa.mk hnb'; have HSB := zaa.mk hsb; clear hKb hjb hyb hnb' hcells hw14 hw15 hszb hsb hszX; have hfil : (pre ++ [xx]).filter (fun x => zbE x.1.1.k) = pre.filter (fun x => zbE x.1.1.k) ++ (if zbE nk = true then [xx] else []) := by
   rw [List.filter_append]
   congr 1
   simp only [List.filter_cons, List.filter_nil, HXX.out, AT.k]
  have HFIL := zaa.mk hfil; clear hfil; have hnl : n0 ≤ Wb.heap.size := by omega
  by_cases e50 : nk = 50
  ·have d50 : (nk == 50) = true := beq_iff_eq.mpr e50
   have E50 := zaa.mk e50; clear e50; obtain ⟨Wf, hWf⟩ : ∃ Wf, Wf = Wb.alloc (.cells #[.int .i64 f, .int .i64 (wrap64 (f + nwd)), .int .u8 nk, .int .u8 nw] 44) := ⟨_, rfl⟩; have hbf : Below Wb.heap.size Wb Wf := by rw [hWf]; exact zad (Below.refl _ _) _
   have HBF := zaa.mk hbf; have HF2 := zaa.mk (show (pre ++ [xx]).filter (fun x => zbE x.1.1.k) = pre.filter (fun x => zbE x.1.1.k) ++ [xx] by rw [HFIL.out, if_pos (by unfold zbE; rw [d50]; rfl)])
   obtain ⟨fn, tmps, assign, body, hyr, hR⟩ := HY.out (n - 1) (pre.filter fun x => zbE x.1.1.k) xx Wf (zbF hJ _ Wb Wf HJB.out hbf) (by
    have h1 := List.IsPrefix.filter (fun x : AT × Int × Int => zbE x.1.k) HP.out
    rw [List.filter_map] at h1; rw [← HF2.out]; exact h1)
   rw [hWf] at hyr; simp only [faultV, HXX.out, AT.k, AT.w, AT.wd, wantOf, if_pos E50.out] at hyr; have HR := zaa.mk hR; have HWF := zaa.mk hWf; clear hR hWf hbf
   gi_wp2
   refine ⟨fun h => (by cases h), ?_⟩
   rw [← HWF.out]; refine (show RoundIn (Fence.wide.inRound l') (n - 1) _ _ _ _ _ _ _ _ from HR.out).mono ?_
   clear m2 m3 m4 m5 m6 m7 my hyr; have hsB := HSB.out; have hBWo := HBW.out; have hkf : Kp n0 B bx Wb Wf := Kp.of_below hbx (by omega) (by omega) HBF.out
   have hn1 : ¬ fr bx Wf W.heap.size := hkf.notfr (za9 HYBb.out) HNBb.out; rintro e X' (⟨rfl, hj', hk'⟩ | ⟨rfl, hx', hk'⟩)
   ·have HJ' := zaa.mk hj'
    have HK' := zaa.mk hk'; clear hj' hk'
    gi_wp2
    exact ⟨(hkf.trans HK'.out).keeps hBX2, HKB.out.trans ((hkf.trans HK'.out).le (by omega)), by rw [HF2.out]; exact HJ'.out, ⟨HK'.out.high _ _ _ _ (by omega) hn1 (zaX HYBb.out HBF.out), HK'.out.notfr (za9 (zaX HYBb.out HBF.out)) hn1⟩, by have := HBF.out.size; have := HK'.out.low.size; omega⟩
   ·have HJ' := zaa.mk hx'
    have HK' := zaa.mk hk'; clear hx' hk'
    gi_wp2
    exact ⟨(hkf.trans HK'.out).keeps hBX2, HKB.out.trans ((hkf.trans HK'.out).le (by omega)), by trivial, by rw [HF2.out]; exact HJ'.out⟩
  have d50 : (nk == 50) = false := beq_eq_false_iff_ne.mpr e50; by_cases ef : zbE nk = true
  case neg =>
   have ef2 : zbE nk = false := by simpa using ef
   have hd : (nk == 68) = false ∧ (nk == 5) = false ∧ (nk == 9) = false ∧ (nk == 4) = false := by
    unfold zbE at ef2
    simp only [Bool.or_eq_false_iff] at ef2; exact ⟨ef2.1.1.1.2, ef2.1.1.2, ef2.1.2, ef2.2⟩
   obtain ⟨d68, d5, d9, d4⟩ := hd; obtain ⟨Wf, hWf⟩ : ∃ Wf, Wf = Wb.alloc (.cells #[.int .i64 f, .int .i64 (wrap64 (f + nwd)), .int .u8 nk, .int .u8 0] 44) := ⟨_, rfl⟩; have hbf : Below Wb.heap.size Wb Wf := by rw [hWf]; exact zad (Below.refl _ _) _
   have HF2 := zaa.mk (show (pre ++ [xx]).filter (fun x => zbE x.1.1.k) = pre.filter (fun x => zbE x.1.1.k) by rw [HFIL.out, if_neg ef, List.append_nil])
   have HBF := zaa.mk hbf; have HWF := zaa.mk hWf; clear ef ef2 e50 hbf hWf
   gi_wp2
   rw [← HWF.out]; have hkf : Kp n0 W2.heap.size bx Wb Wf := Kp.of_below (fun b hb => by have := hbx b hb; omega) (by omega) (by have := HSB.out; omega) HBF.out
   exact ⟨⟨HBF.out.size, fun q o _ ho _ => (HBF.out.block q (Array.getElem?_eq_some_iff.1 ho).1).trans ho⟩, HKB.out.trans hkf, by rw [HF2.out]; exact zbF hJ _ Wb Wf HJB.out HBF.out, ⟨zaX HYBb.out HBF.out, hkf.notfr (za9 HYBb.out) HNBb.out⟩, Nat.le_trans HSB.out HBF.out.size⟩
  have hd : (nk == 68) = true ∨ ((nk == 68) = false ∧ (nk == 5) = true) ∨ ((nk == 68) = false ∧ (nk == 5) = false ∧ (nk == 9) = true) ∨ ((nk == 68) = false ∧ (nk == 5) = false ∧ (nk == 9) = false ∧ (nk == 4) = true) := by
   unfold zbE at ef
   rw [d50] at ef; cases h68 : (nk == 68) <;> cases h5 : (nk == 5) <;> cases h9 : (nk == 9) <;> cases h4 : (nk == 4) <;> simp_all
  have EF := zaa.mk ef.symm; have E50 := zaa.mk e50; clear ef e50; rcases hd with d68 | ⟨d68, d5⟩ | ⟨d68, d5, d9⟩ | ⟨d68, d5, d9, d4⟩
  all_goals
   obtain ⟨Wf, hWf⟩ : ∃ Wf, Wf = Wb.alloc (.cells #[.int .i64 f, .int .i64 (wrap64 (f + nwd)), .int .u8 nk, .int .u8 0] 44) := ⟨_, rfl⟩; have hbf : Below Wb.heap.size Wb Wf := by rw [hWf]; exact zad (Below.refl _ _) _
   have HBF := zaa.mk hbf; have HF2 := zaa.mk (show (pre ++ [xx]).filter (fun x => zbE x.1.1.k) = pre.filter (fun x => zbE x.1.1.k) ++ [xx] by rw [HFIL.out, if_pos EF.out.symm])
   obtain ⟨fn, tmps, assign, body, hyr, hR⟩ := HY.out (n - 1) (pre.filter fun x => zbE x.1.1.k) xx Wf (zbF hJ _ Wb Wf HJB.out hbf) (by
    have h1 := List.IsPrefix.filter (fun x : AT × Int × Int => zbE x.1.k) HP.out
    rw [List.filter_map] at h1; rw [← HF2.out]; exact h1)
   rw [hWf] at hyr; simp only [faultV, HXX.out, AT.k, AT.w, AT.wd, wantOf, if_neg E50.out] at hyr; have HR := zaa.mk hR; have HWF := zaa.mk hWf; clear hR hWf hbf
   gi_wp2
   refine ⟨fun h => (by cases h), ?_⟩
   rw [← HWF.out]; refine (show RoundIn (Fence.wide.inRound l') (n - 1) _ _ _ _ _ _ _ _ from HR.out).mono ?_
   clear m2 m3 m4 m5 m6 m7 my hyr; have hsB := HSB.out; have hBWo := HBW.out; have hkf : Kp n0 B bx Wb Wf := Kp.of_below hbx (by omega) (by omega) HBF.out
   have hn1 : ¬ fr bx Wf W.heap.size := hkf.notfr (za9 HYBb.out) HNBb.out; rintro e X' (⟨rfl, hj', hk'⟩ | ⟨rfl, hx', hk'⟩)
   ·have HJ' := zaa.mk hj'
    have HK' := zaa.mk hk'; clear hj' hk'
    gi_wp2
    exact ⟨(hkf.trans HK'.out).keeps hBX2, HKB.out.trans ((hkf.trans HK'.out).le (by omega)), by rw [HF2.out]; exact HJ'.out, ⟨HK'.out.high _ _ _ _ (by omega) hn1 (zaX HYBb.out HBF.out), HK'.out.notfr (za9 (zaX HYBb.out HBF.out)) hn1⟩, by have := HBF.out.size; have := HK'.out.low.size; omega⟩
   ·have HJ' := zaa.mk hx'
    have HK' := zaa.mk hk'; clear hx' hk'
    gi_wp2
    exact ⟨(hkf.trans HK'.out).keeps hBX2, HKB.out.trans ((hkf.trans HK'.out).le (by omega)), by trivial, by rw [HF2.out]; exact HJ'.out⟩
 case done =>
  rintro xs X hS ⟨hj, _, _⟩ hD
  have HD := zaa.mk hD; clear hD
  gi_wp2
  refine ⟨by simp, .inl ⟨_, _, rfl, run_takeDeferred HD.out, ?_⟩⟩
  exact ⟨_, results_none rfl _ _ _, ⟨_, rfl⟩, .inl ⟨xs.filter fun x => zbE x.1.1.k, by rw [← hS, List.filter_map]; rfl, (OwnFrom.le hJ (by have := HS2.out; omega)).putObj (B := W2.heap.size) _ hj (Nat.le_refl _) HD.out rfl⟩⟩
 case stop =>
  rintro c pre X hS ⟨rfl, hj⟩ hD
  have HD := zaa.mk hD; clear hD
  gi_wp2
  refine ⟨by simp, .inl ⟨_, _, rfl, run_takeDeferred HD.out, ?_⟩⟩
  exact ⟨_, results_none rfl _ _ _, ⟨_, rfl⟩, .inr ⟨pre.filter fun x => zbE x.1.1.k, by have := List.IsPrefix.filter (fun x : AT × Int × Int => zbE x.1.k) hS; rwa [List.filter_map] at this, (OwnFrom.le hJx (by have := HS2.out; omega)).putObj (B := W2.heap.size) _ hj (Nat.le_refl _) HD.out rfl⟩⟩
end
theorem kp_append {n0 B ob nn cv cap e g : Nat} {Wb w1 : World} {Av : Option Addr} {α : Type} {d : Kd α} {L : List α} {t : TypeId} (hob1 : n0 ≤ ob) (hob2 : ob < B) (hBW : B ≤ Wb.heap.size)
  (hov : Wb.heap[ob]? = some (.cells #[.slice Av nn cv] t (0, 0))) (hrow : d.R e Wb n0 (fun k => k ≠ ob) (.slice Av nn cv) L)
  (hg : Wb.grownBy w1 (Value.slice Av nn cv).ownBlock) (hgo : (Value.slice Av nn cv).ownBlock = some g ∨ Wb.heap.size ≤ g) :
  KeepsFrom B Wb (w1.setCell ⟨ob, 0, none⟩ (.slice (some ⟨g, 0, none⟩) (nn + 1) cap)) ∧ Kp n0 B [ob] Wb (w1.setCell ⟨ob, 0, none⟩ (.slice (some ⟨g, 0, none⟩) (nn + 1) cap)) ∧ Below n0 Wb (w1.setCell ⟨ob, 0, none⟩ (.slice (some ⟨g, 0, none⟩) (nn + 1) cap)) ∧
   (w1.setCell ⟨ob, 0, none⟩ (.slice (some ⟨g, 0, none⟩) (nn + 1) cap)).heap[ob]? = some (.cells #[.slice (some ⟨g, 0, none⟩) (nn + 1) cap] t (0, 0)) ∧ Wb.heap.size ≤ (w1.setCell ⟨ob, 0, none⟩ (.slice (some ⟨g, 0, none⟩) (nn + 1) cap)).heap.size ∧
   (∀ {v' : Value} {L' : List α}, d.R e w1 n0 (fun k => k ≠ ob) v' L' → d.R e (w1.setCell ⟨ob, 0, none⟩ (.slice (some ⟨g, 0, none⟩) (nn + 1) cap)) n0 (fun k => k ≠ ob) v' L') := by
 obtain ⟨WF, hWF⟩ : ∃ WF, WF = w1.setCell ⟨ob, 0, none⟩ (.slice (some ⟨g, 0, none⟩) (nn + 1) cap) := ⟨_, rfl⟩; rw [← hWF]; have hsz : WF.heap.size = w1.heap.size := by rw [hWF]; simp
 have hlo := za9 hov; have hno : (Value.slice Av nn cv).ownBlock ≠ some ob := fun e => hrow.1 _ e rfl
 have hoth : ∀ q, q ≠ ob → WF.heap[q]? = w1.heap[q]? := fun q hq => by rw [hWF]; exact Below.heap_setCell _ _ _ _ hq
 have hov1 : w1.heap[ob]? = some (.cells #[.slice Av nn cv] t (0, 0)) := (hg.block _ hlo (fun e => hno e.symm)).trans hov
 have hovF : WF.heap[ob]? = some (.cells #[.slice (some ⟨g, 0, none⟩) (nn + 1) cap] t (0, 0)) := by rw [hWF]; exact blk_set hov1 0 _
 have hown : ∀ k, (Value.slice Av nn cv).ownBlock = some k → ∃ q cells, Wb.heap[k]? = some (.cells cells q (0, 0)) := fun k hk => by
  obtain ⟨_, _, _, q, _, cells, hc⟩ := (Kd.R_bound hrow).1 k hk; exact ⟨q, cells, hc⟩
 have hgen : ∀ k o, Wb.heap[k]? = some o → (Value.slice Av nn cv).ownBlock ≠ some k → k ≠ ob → WF.heap[k]? = some o := fun k o hk hko hkv => by
  rw [hoth k hkv, hg.block k (Array.getElem?_eq_some_iff.1 hk).1 (fun e => hko e.symm), hk]
 have hnc : ∀ k o, B ≤ k → o.isCells = false → Wb.heap[k]? = some o → WF.heap[k]? = some o := fun k o hk hc ho => by
  refine hgen k o ho (fun e => ?_) (by omega)
  obtain ⟨q, cells, h⟩ := hown k e; rw [h] at ho; cases ho; cases hc
 have hbase : ∀ k, (Value.slice Av nn cv).ownBlock = some k → n0 ≤ k := fun k hk => ((Kd.R_bound hrow).1 k hk).2.1
 have hlow : Below n0 Wb WF := by
  rw [hWF]; exact ((Below.refl _ _).grown hg (by omega) hbase).setCell hob1 _
 have hsg := hg.size; have hfrX : ∀ k, (Value.slice Av nn cv).ownBlock = some k → fr [ob] Wb k := fun k hk => ⟨_, List.mem_singleton.2 rfl, _, by rw [zaf hov 0]; rfl, hk⟩
 refine ⟨⟨by omega, fun k o hk ho hc => hnc k o hk hc ho⟩, ⟨hlow, fun k cs t' fz hk hnf hcs => ?_, fun k hf => ?_, fun k o hk hc ho => hnc k o (by omega) hc ho⟩, hlow, hovF, by omega, fun {v' L'} h => ?_⟩
 ·exact hgen k _ hcs (fun e => hnf (hfrX k e)) (by omega)
 ·obtain ⟨q, hq, u, hu', ho⟩ := hf
  rw [List.mem_singleton] at hq; subst hq; rw [zaf hovF 0] at hu'; simp at hu'; subst hu'; simp only [Value.ownBlock, Option.some.injEq] at ho; subst ho; rcases hgo with h | h
  ·exact .inl (hfrX g h)
  ·exact .inr h
 ·exact Kd.R_step h (fun k hk hlt => hoth k hk)
section
attribute [local go_sem] Oper.semAt_some
theorem wpListIn_append_run {F : Fence} {n : Nat} {P : Program} {w w' : World} {ops : Array Oper} {rest : List Oper} {o : Oper} {a : Act} {Q : Exit → Act → World → Prop} {v' : Value}
  (hg : o.guard = none) (s x : Operand) (t : TypeId) (hop : o.op = Op.call { callee := Callee.builtin Builtin.append, args := #[s, x], argTypes := #[t, t] })
  (hrun : (Builtin.append_ #[t, t] o.type #[a.eval s, a.eval x]).run P w = .ok v' w') (hK : wpListIn F n P ops Q rest (a.put o.dst v') w') : wpListIn F n P ops Q (o :: rest) a w := by
 refine wpListIn_plain hg fun K hK' => ?_
 unfold Oper.wpIn
 refine ⟨?_, ?_⟩
 ·simp [Oper.about, hop, resolve, Target.leads, Sem.run_pure]
 ·rw [Oper.semAt_plain F _ _ (by rw [hop]; intro c hc'; cases hc')]
  simp [execOp, hop, resolve, invoke, builtin, hrun, Result.andThen]; exact hK' _ _ hK
def faultO (x : AT × Int × Int) : S44 := ⟨⟨x.2.1, wrap64 (x.2.1 + x.1.wd)⟩, x.1.k, wantOf x.1.k x.1.w⟩
theorem infoFault : (Try.prog.info? 44).map (fun i => (i.zero, i.size, i.bytes)) = some (some (.agg #[.int .i64 0, .int .i64 0, .int .u8 0, .int .u8 0]), 4, 24) := by kernel_rfl
theorem own_R' {α : Type} {d : Kd α} {e base B : Nat} {ok : Nat → Prop} {v : Value} {xs : List α} {X X' : World} {row : Option Nat} (h : d.R e X base ok v xs) (hg : X.grownBy X' row) (hr : ∀ r, row = some r → B ≤ r ∧ ∃ o : Obj, X.heap[r]? = some o ∧ o.isCells = false) : d.R e X' base ok v xs :=
 Kd.zbV (Kd.R_step (Kd.R_bound h) (fun k hk hlt => hg.block k hlt (fun he => by
  obtain ⟨_, _, _, q, _, cells, hc⟩ := hk; obtain ⟨_, o, ho, hn⟩ := hr k he.symm; rw [hc] at ho; cases ho; cases hn))) (fun _ hk => hk.1)
set_option maxHeartbeats 4000000 in
set_option maxRecDepth 100000 in
theorem collect_in (nb : Nat) (T : AT) (n : Nat) (w : World) (hT : AtT w T) (hnb : w.heap[nb]? = some (boxN T.k T.w T.wd T.A T.kids.length T.c)) (hN : T.all.length ≤ 2000000) :
  CallsIn Fence.wide n Try.prog 40 #[.slice none 0 0, .func (.func 41) #[] #[.pointer (some ⟨nb, 0, none⟩)]] w fun e w' => ∃ v, e = .returned v ∧ Kd.R k44 44 w' w.heap.size (fun _ => True) v ((T.all.filter fun x => zbE x.1.k).map faultO) ∧ Below w.heap.size w w' := by
 obtain ⟨W1, hW1⟩ : ∃ W1, W1 = w.alloc (.cells #[.slice none 0 0] 37) := ⟨_, rfl⟩; have hb1 : Below w.heap.size w W1 := by rw [hW1]; exact zad (Below.refl _ _) _
 have hob : W1.heap[w.heap.size]? = some (.cells #[.slice none 0 0] 37 (0, 0)) := by rw [hW1]; exact heap_alloc_new _ _
 have hs1 : W1.heap.size = w.heap.size + 1 := by rw [hW1]; simp
 have HB1 := zaa.mk hb1; have HOB := zaa.mk hob; have HS1 := zaa.mk hs1; have HNB := zaa.mk (zaX hnb hb1); clear hb1 hob hs1 hnb; refine callsIn_of_wp_marks Try.func40 rfl trivial ?_ rfl
 simp only [Try.ntmps40, List.size_toArray, List.length_cons, List.length_nil, Nat.reduceAdd, Nat.reduceSub, Array.replicate_succ, Array.replicate_zero, List.push_toArray, List.append_toArray, List.nil_append, List.cons_append]
 gi_wp2
 rw [← hW1]; clear hW1; have hbx : ∀ b ∈ [w.heap.size], b < W1.heap.size := fun b hb => by rw [List.mem_singleton] at hb; have := HS1.out; omega
 have hIV : ∀ X : World, (∃ v, X.heap[w.heap.size]? = some (.cells #[v] 37 (0, 0)) ∧ ∀ k, v.ownBlock = some k → k < X.heap.size) → Valid [w.heap.size] X := by
  rintro X ⟨v, hv, hl⟩ k ⟨b, hb, u, hu', ho⟩
  rw [List.mem_singleton] at hb; subst hb; rw [zaf hv 0] at hu'; simp at hu'; subst hu'; exact hl k ho
 refine rangeF (w := W1) (gf := 41) (lb := #[.pointer (some ⟨nb, 0, none⟩)]) rfl (enters_of Try.func41 (by kernel_rfl) rfl)
  (each_stops w w.heap.size W1.heap.size rfl (by have := HS1.out; omega) [w.heap.size] hbx nb T W1 hT HB1.out HNB.out)
  (fun h k => Kp.trans h k) (fun W o o' h hc => Kp.record hbx (by have := HS1.out; omega) W o o' h hc) (Below.refl _ _) (fun _ => rfl)
  (fun pre X => (∃ v, X.heap[w.heap.size]? = some (.cells #[v] 37 (0, 0)) ∧ Kd.R k44 44 X w.heap.size (fun k => k ≠ w.heap.size) v (pre.map fun x => faultO x.1)) ∧ Below w.heap.size w X ∧ W1.heap.size + 2 ≤ X.heap.size)
  (fun c pre X => False)
  (fun s A B row hs hg hr => by
   obtain ⟨⟨v, h1, h2⟩, h3, h4⟩ := hs; exact ⟨⟨v, own_cells s A B row h1 hg hr, own_R' h2 hg hr⟩, h3.grown hg h3.size (fun k hk => by have := (hr k hk).1; have := HS1.out; omega), Nat.le_trans h4 hg.size⟩)
  (fun c s A B row hs hg hr => hs)
  (fun pre X h => by
   obtain ⟨⟨v, h1, h2⟩, h3, h4⟩ := h; exact ⟨hIV X ⟨v, h1, Kd.R_lt h2⟩, h4⟩)
  (fun Wq hbq hsq => ⟨⟨_, zaX HOB.out hbq, Kd.R_nil _ _ _ _ _⟩, zaG HB1.out hbq, hsq⟩)
  ?round ?done ?stop
 case round =>
  rintro l' pre ⟨⟨⟨nk, nw, nwd, nA, nc, nkids⟩, f, d⟩, hTn⟩ X C hX ⟨⟨v, hov, hrow⟩, hlow, hsz⟩ hp hC
  obtain ⟨xx, hxx⟩ : ∃ xx : Told w, xx = ⟨(AT.node nk nw nwd nA nc nkids, f, d), hTn⟩ := ⟨_, rfl⟩; obtain ⟨wv, hwv⟩ : ∃ wv, wv = wantOf nk nw := ⟨_, rfl⟩; have HXX := zaa.mk (show faultO xx.1 = ⟨⟨f, wrap64 (f + nwd)⟩, nk, wv⟩ by rw [hxx, hwv]; rfl)
  have HC := zaa.mk hC; have HP := zaa.mk hp; rw [← hxx] at HC HP; obtain ⟨X2, hX2⟩ : ∃ X2, X2 = X.alloc (.cells #[.int .i64 f, .int .i64 (wrap64 (f + nwd)), .int .u8 nk, .int .u8 wv] 44) := ⟨_, rfl⟩; have hbx2 : Below X.heap.size X X2 := by rw [hX2]; exact zad (Below.refl _ _) _
  have h14 : X2.heap[X.heap.size]? = some (.cells #[.int .i64 f, .int .i64 (wrap64 (f + nwd)), .int .u8 nk, .int .u8 wv] 44 (0, 0)) := by rw [hX2]; exact heap_alloc_new X _
  have HBX := zaa.mk hbx2; have H14 := zaa.mk h14; have HX2 := zaa.mk hX2; have HHOV := zaa.mk hov; have HROW := zaa.mk hrow; have HLOW := zaa.mk hlow; have huf := Try.underlying44; have HWV := zaa.mk hwv; clear hC hp hxx hbx2 h14 hX2 hov hrow hlow; simp only [faultV, AT.k, AT.w, AT.wd, AT.A, AT.c, AT.kids]; rw [← hwv]; clear hwv
  gi_wp2
  rw [← HX2.out]; refine HC.out _ _ ⟨HBX.out.size, fun q o _ ho _ => (HBX.out.block q (Array.getElem?_eq_some_iff.1 ho).1).trans ho⟩ (Kp.of_below hbx (HLOW.out.size) (by omega) HBX.out) ⟨⟨v, zaX HHOV.out HBX.out, Kd.zbT HROW.out HBX.out⟩, zaG HLOW.out HBX.out, Nat.le_trans hsz HBX.out.size⟩ (fun Wb hKb hIb hcells hszb => ?_)
  obtain ⟨⟨vb, hovb, hrowb⟩, hlowb, hsb⟩ := hIb; have hw14 := hcells _ _ _ _ H14.out; obtain ⟨Av, cv, e⟩ := Kd.zbB hrowb; subst e; obtain ⟨nn, hnn⟩ : ∃ nn, nn = (pre.map fun x => faultO x.1).length := ⟨_, rfl⟩
  rw [← hnn] at hrowb hovb; obtain ⟨Y, hY⟩ : ∃ Y, Y = Wb.alloc (.cells #[.int .i64 f, .int .i64 (wrap64 (f + nwd)), .int .u8 nk, .int .u8 wv] 44) := ⟨_, rfl⟩; have hbY : Below Wb.heap.size Wb Y := by rw [hY]; exact zad (Below.refl _ _) _
  have hlen : pre.length < 2000000 := by
   have h1 := List.IsPrefix.length_le HP.out; have h2 := List.length_filter_le (fun x : AT × Int × Int => zbE x.1.k) T.all
   simp only [List.length_map, List.length_append, List.length_singleton] at h1; omega
  obtain ⟨g, cap, w1, hrun, hg, hgo, hbg, hnl, hR1⟩ := append_elem k44 44 37 hrowb (hlowb.size) (fun k hk => by have := HS1.out; omega) Try.underlying37 infoFault rfl (by decide) (by decide) (by rw [List.length_map]; omega) hbY ⟨⟨f, wrap64 (f + nwd)⟩, nk, wv⟩ [.int .i64 f, .int .i64 (wrap64 (f + nwd)), .int .u8 nk, .int .u8 wv] (by rw [hY]; exact heap_alloc_new _ _) (k44_mkM _ _ _ _) rfl (by intro u hu; simp at hu; rcases hu with rfl | rfl | rfl | rfl <;> rfl)
  rw [hY] at hrun; rw [← HXX.out] at hR1; have m0 := zaf hw14 0; have m1 := zaf hw14 1; have m2 := zaf hw14 2; have m3 := zaf hw14 3; have mo := zaf hovb 0; have lo := za9 hovb; have l14 := za9 hw14; simp at m0 m1 m2 m3 mo; have hovw : w1.heap[w.heap.size]? = some (.cells #[.slice Av nn cv] 37 (0, 0)) := (hg.block _ lo (fun e => hrowb.1 _ e.symm rfl)).trans hovb
  have mw := zaf hovw 0; have fw := zab hovw 0; have lw := za9 hovw; simp at mw; have HOVW := zaa.mk hovw; have HOVb := zaa.mk hovb; have HROWb := zaa.mk hrowb; have HLOWb := zaa.mk hlowb; have HKB := zaa.mk hKb; have HG := zaa.mk hg; have HGO := zaa.mk hgo; have HBG := zaa.mk hbg; have HR1 := zaa.mk hR1; have HSB := zaa.mk hsb; clear hovw hovb hrowb hlowb hKb hg hgo hbg hR1 hsb hw14 hcells hnl hlen hnn hY hbY hszb hsz
  gi_wp2_with (gi_at_builtin; refine wpListIn_append_run rfl _ _ _ rfl hrun ?_)
  obtain ⟨f1, f2, f3, f4, f5, f6⟩ := kp_append (cap := cap) (Nat.le_refl _) (show w.heap.size < W1.heap.size by have := HS1.out; omega) (by have := HSB.out; omega) HOVb.out HROWb.out HG.out HGO.out
  exact ⟨f1, HKB.out.trans f2, ⟨_, f4, by rw [List.map_append, List.map_singleton]; exact f6 HR1.out⟩, HLOWb.out.trans f3, Nat.le_trans HSB.out f5⟩
 case done =>
  rintro xs X hS ⟨⟨v, hov, hrow⟩, hlow, hsz⟩ hD
  have HD := zaa.mk hD; have HROW := zaa.mk hrow; have ko := zaf hov 0; simp at ko; clear hD hrow
  gi_wp2
  refine ⟨by simp, .inl ⟨_, _, rfl, run_takeDeferred HD.out, ?_⟩⟩
  refine ⟨_, results_tmp rfl _ _ _, _, rfl, ?_, hlow.trans (below_putObj X _ (by have := HS1.out; omega))⟩
  rw [← hS, List.map_map]; exact Kd.zbV (own_R' (B := 0) HROW.out (grownBy_putObj' X W1.heap.size (.deferred none)) (fun r hr => by cases hr; exact ⟨Nat.zero_le _, _, HD.out, rfl⟩)) (fun _ _ => trivial)
 case stop =>
  rintro c pre X hS hf hD
  exact hf.elim
set_option maxHeartbeats 1000000 in
theorem collect2_in (nb : Nat) (T : AT) (n : Nat) (w : World) (hT : AtT w T) (hnb : w.heap[nb]? = some (boxN T.k T.w T.wd T.A T.kids.length T.c)) (hN : T.all.length ≤ 2000000) :
  CallsIn Fence.wide n Try.prog 19 #[.func (.func 41) #[] #[.pointer (some ⟨nb, 0, none⟩)]] w fun e w' => ∃ v, e = .returned v ∧ Kd.R k44 44 w' w.heap.size (fun _ => True) v ((T.all.filter fun x => zbE x.1.k).map faultO) ∧ Below w.heap.size w w' := by
 have HC := zaa.mk (collect_in nb T (n - 1) w hT hnb hN); clear hT hnb; refine callsIn_of_wp Try.func19 rfl trivial ?_ rfl
 simp only [Try.ntmps19, List.size_toArray, List.length_cons, List.length_nil, Nat.reduceAdd, Nat.reduceSub, Array.replicate_succ, Array.replicate_zero, List.push_toArray, List.append_toArray, List.nil_append, List.cons_append]
 gi_wp2
 refine ⟨trivial, fun h => (by cases h), ?_⟩
 refine HC.out.mono ?_
 rintro e w' ⟨v, rfl, hr, hb⟩
 have HR := zaa.mk hr; have HB := zaa.mk hb; clear hr hb HC
 gi_wp2
 go_ret
 exact ⟨_, rfl, HR.out, HB.out⟩
set_option maxHeartbeats 1000000 in
theorem faultsOf_in (T : AT) (w : World) (hT : AtT w T) (hN : T.all.length ≤ 2000000) :
  Calls Try.prog 12 #[.agg #[.int .u8 T.k, .int .u8 T.w, .int .i64 T.wd, .slice T.A T.kids.length T.c]] w fun e w' => ∃ v, e = .returned v ∧ Kd.R k44 44 w' w.heap.size (fun _ => True) v ((T.all.filter fun x => zbE x.1.k).map faultO) ∧ Below w.heap.size w w' := by
 refine (callsIn_wide (n := 4)).1 ?_
 obtain ⟨W1, hW1⟩ : ∃ W1, W1 = w.alloc (boxN T.k T.w T.wd T.A T.kids.length T.c) := ⟨_, rfl⟩; have hb1 : Below w.heap.size w W1 := by rw [hW1]; exact zad (Below.refl _ _) _
 obtain ⟨W2, hW2⟩ : ∃ W2, W2 = W1.alloc (boxN T.k T.w T.wd T.A T.kids.length T.c) := ⟨_, rfl⟩; have hb2 : Below W1.heap.size W1 W2 := by rw [hW2]; exact zad (Below.refl _ _) _
 have hnb2 : W2.heap[W1.heap.size]? = some (boxN T.k T.w T.wd T.A T.kids.length T.c) := by rw [hW2]; exact heap_alloc_new W1 _
 have hu := Try.underlying25; have HB2 := zaa.mk (zaG hb1 hb2); have HC := zaa.mk (collect2_in W1.heap.size T 3 W2 (AtT.below (zaG hb1 hb2) T hT) hnb2 hN); clear hb1 hb2 hnb2 hT; refine callsIn_of_wp Try.func12 rfl trivial ?_ rfl
 simp only [Try.ntmps12, List.size_toArray, List.length_cons, List.length_nil, Nat.reduceAdd, Nat.reduceSub, Array.replicate_succ, Array.replicate_zero, List.push_toArray, List.append_toArray, List.nil_append, List.cons_append]
 gi_wp2
 refine ⟨trivial, ?_⟩
 change CallsIn Fence.wide 3 Try.prog 20 _ (w.alloc (boxN T.k T.w T.wd T.A T.kids.length T.c)) _
 rw [← hW1]; refine (each_in _ _ _ _ _ _ _ _).mono ?_
 rintro e w' ⟨rfl, rfl⟩
 rw [← hW2]; clear hW1 hW2
 gi_wp2
 refine ⟨trivial, ?_⟩
 refine HC.out.mono ?_
 rintro e w' ⟨v, rfl, hr, hb⟩
 have HR := zaa.mk hr; have HB := zaa.mk hb; clear hr hb HC
 gi_wp2
 go_ret
 exact ⟨_, rfl, Kd.zbG HR.out HB2.out.size, zaG HB2.out HB.out⟩
end
end Go.Proofs.Ytceddikbmbadlaa.H
namespace Go.Proofs.Ytceddikbmbadlaa.H
open Go.RowKit Go.Proofs.YtceddikbmbadlaaW.PrintWords Go.Proofs.YtceddikbmbadlaaW.PrintLast Go.Proofs.YtceddikbmbadlaaW.PrintMore
def er (x : AT × Int × Int) : S25 × Int × Int := (x.1.erase, x.2)
mutual
theorem er_pre : ∀ (T : AT) (f d : Int), (T.pre f d).map er = preT T.erase f d
 | .node k w wd A c kids, f, d => by simp only [AT.pre, AT.erase, preT, List.map_cons, er_preL kids f d, er]
theorem er_preL : ∀ (l : List AT) (f d : Int), (preL l f d).map er = preTL (eraseL l) f d
 | [], f, d => by simp only [preL, eraseL, preTL, List.map_nil]
 | T :: r, f, d => by
  have : T.erase.f2 = T.wd := by rw [erase_f]
  simp only [preL, eraseL, preTL, List.map_append, er_pre T, er_preL r, this]
end
def allT (t : S25) : List (S25 × Int × Int) := if okB t then preT t 0 0 else []
theorem er_all (T : AT) : T.all.map er = allT T.erase := by
 unfold AT.all allT
 split
 ·exact er_pre T 0 0
 ·rfl
theorem allT_length (t : S25) : (allT t).length ≤ tsize t := by
 unfold allT
 split
 ·rw [preT_length]; exact Nat.le_refl _
 ·exact Nat.zero_le _
theorem all_length (T : AT) : T.all.length ≤ tsize T.erase := by
 rw [← List.length_map (f := er), er_all]; exact allT_length _
def faultS (x : S25 × Int × Int) : S44 := ⟨⟨x.2.1, wrap64 (x.2.1 + x.1.f2)⟩, x.1.f0, wantOf x.1.f0 x.1.f1⟩
def faultsS (xs : List (S25 × Int × Int)) : List S44 := (xs.filter fun x => zbE x.1.f0).map faultS
theorem faultsA_er (xs : List (AT × Int × Int)) : (xs.filter fun x => zbE x.1.k).map faultO = faultsS (xs.map er) := by
 induction xs with
 | nil => rfl
 | cons x r ih =>
  have e0 : x.1.erase.f0 = x.1.k := by rw [erase_f]
  have e1 : x.1.erase.f1 = x.1.w := by rw [erase_f]
  have e2 : x.1.erase.f2 = x.1.wd := by rw [erase_f]
  unfold faultsS at ih ⊢
  simp only [List.map_cons, List.filter_cons, er, e0]
  split
  ·simp only [List.map_cons, faultO, faultS, e0, e1, e2]
   rw [ih]
  ·rw [ih]
def faults_Of.f (a0_0 : Int) (a0_1 : Int) (a0_2 : Int) (l0_3 : List (S25)) : Option (List (S44)) := if tsize ⟨a0_0, a0_1, a0_2, l0_3⟩ ≤ 2000000 then some (faultsS (allT ⟨a0_0, a0_1, a0_2, l0_3⟩)) else none
theorem faults_Of.calls (a0_0 : Int) (a0_1 : Int) (a0_2 : Int) (A0_3 : Option Addr) (c0_3 : Nat) (l0_3 : List (S25)) (r : List (S44)) (w : World) (hr0_3 : Kd.C k25 w A0_3 l0_3.length l0_3) (hc0_3 : l0_3.length ≤ c0_3) (h : faults_Of.f a0_0 a0_1 a0_2 l0_3 = some r) :
  Calls Try.prog 12 #[.agg #[.int .u8 a0_0, .int .u8 a0_1, .int .i64 a0_2, .slice A0_3 l0_3.length c0_3]] w fun e w' => ∃ v0_ : Value, e = .returned v0_ ∧ Kd.R k44 44 w' w.heap.size (fun _ => True) v0_ r ∧ Below w.heap.size w w' := by
 unfold faults_Of.f at h
 by_cases hsz : tsize ⟨a0_0, a0_1, a0_2, l0_3⟩ ≤ 2000000
 case neg => rw [if_neg hsz] at h; cases h
 rw [if_pos hsz] at h; cases h; obtain ⟨kids, he, hT⟩ := exists_AT w _ ⟨a0_0, a0_1, a0_2, l0_3⟩ (Nat.lt_succ_self _) A0_3 c0_3 hc0_3 hr0_3; simp only at he hT; subst he; have hL := faultsOf_in (.node a0_0 a0_1 a0_2 A0_3 c0_3 kids) w hT (Nat.le_trans (all_length _) (by simpa only [AT.erase] using hsz))
 rw [faultsA_er, er_all, AT.erase] at hL; simp only [AT.k, AT.w, AT.wd, AT.A, AT.c, AT.kids] at hL; rw [zbA]; exact hL
section
attribute [local go_sem] zbq zbo zbx zbw zbg zbf zbp zbn
mutual
def zau.l0 : Nat → List (S44) → Int → Int → Int → Int → List (S25) → Int → Int → Int → List (S25) → Option (Bool)
 | 0, _, _, _, _, _, _, _, _, _, _ => none
 | k + 1, x4, x5, x190000, x190001, x190002, x190003, x197000, x197001, x197002, x197003 => if x5 < 2 then ((faults_Of.f x197000 x197001 x197002 x197003).bind fun t200 => ((zaP.f k t200 x4).bind fun t203 => (if t203 = true then ((zan.f k x197000 x197001 x197002 x197003 x190000 x190001 x190002 x190003).bind fun t204 => (zau.j1 k x4 x5 t200 (!t204) x190000 x190001 x190002 x190003 x197000 x197001 x197002 x197003)) else (zau.j1 k x4 x5 t200 true x190000 x190001 x190002 x190003 x197000 x197001 x197002 x197003)))) else (some true)
def zau.j1 : Nat → List (S44) → Int → List (S44) → Bool → Int → Int → Int → List (S25) → Int → Int → Int → List (S25) → Option (Bool)
 | 0, _, _, _, _, _, _, _, _, _, _, _, _ => none
 | k + 1, x4, x5, x6, x27, x190000, x190001, x190002, x190003, x197000, x197001, x197002, x197003 => if x27 = true then (some false) else (zau.l1 k x4 x5 x6 0 x190000 x190001 x190002 x190003 x197000 x197001 x197002 x197003)
def zau.l1 : Nat → List (S44) → Int → List (S44) → Int → Int → Int → Int → List (S25) → Int → Int → Int → List (S25) → Option (Bool)
 | 0, _, _, _, _, _, _, _, _, _, _, _, _ => none
 | k + 1, x4, x5, x6, x7, x190000, x190001, x190002, x190003, x197000, x197001, x197002, x197003 => if x7 < (x6.length : Int) then (if 0 ≤ x7 then (zau.l1 k x4 x5 (x6.set (x7 : Int).toNat (⟨(⟨0, 0⟩ : S42), 99, 0⟩ : S44)) (wrap64 (x7 + 1)) x190000 x190001 x190002 x190003 x197000 x197001 x197002 x197003) else (none)) else (zau.l0 k x4 (wrap64 (x5 + 1)) x190000 x190001 x190002 x190003 x197000 x197001 x197002 x197003)
end
def zau.f (k : Nat) (a0_0 : Int) (a0_1 : Int) (a0_2 : Int) (l0_3 : List (S25)) : Option (Bool) := (zaD.f k a0_0 a0_1 a0_2 l0_3).bind fun bt190 => ((zay.f k a0_0 a0_1 a0_2 l0_3).bind fun t197 => (zau.l0 k t197 0 a0_0 a0_1 a0_2 l0_3 bt190.1 bt190.2.1 bt190.2.2.1 bt190.2.2.2))
theorem zau.zbr : ∀ k, (∀ y0 y1 y2 y3 y4 y5 y6 y7 y8 y9, LeO (zau.l0 k y0 y1 y2 y3 y4 y5 y6 y7 y8 y9) (zau.l0 (k + 1) y0 y1 y2 y3 y4 y5 y6 y7 y8 y9)) ∧ (∀ y0 y1 y2 y3 y4 y5 y6 y7 y8 y9 y10 y11, LeO (zau.j1 k y0 y1 y2 y3 y4 y5 y6 y7 y8 y9 y10 y11) (zau.j1 (k + 1) y0 y1 y2 y3 y4 y5 y6 y7 y8 y9 y10 y11)) ∧ (∀ y0 y1 y2 y3 y4 y5 y6 y7 y8 y9 y10 y11, LeO (zau.l1 k y0 y1 y2 y3 y4 y5 y6 y7 y8 y9 y10 y11) (zau.l1 (k + 1) y0 y1 y2 y3 y4 y5 y6 y7 y8 y9 y10 y11))
 | 0 => ⟨fun _ _ _ _ _ _ _ _ _ _ r h => by simp [zau.l0] at h, fun _ _ _ _ _ _ _ _ _ _ _ _ r h => by simp [zau.j1] at h, fun _ _ _ _ _ _ _ _ _ _ _ _ r h => by simp [zau.l1] at h⟩
 | k + 1 => by
  obtain ⟨ih0, ih1, ih2⟩ := zau.zbr k; refine ⟨?_, ?_, ?_⟩
  ·intro y0 y1 y2 y3 y4 y5 y6 y7 y8 y9
   unfold zau.l0
   repeat' first
   | (with_reducible exact ih0 _ _ _ _ _ _ _ _ _ _)
   | (with_reducible exact ih1 _ _ _ _ _ _ _ _ _ _ _ _)
   | (with_reducible exact ih2 _ _ _ _ _ _ _ _ _ _ _ _)
   | (with_reducible exact zan.mono _ _ _ _ _ _ _ _ _)
   | (with_reducible exact zaD.mono _ _ _ _ _)
   | (with_reducible exact zay.mono _ _ _ _ _)
   | (with_reducible exact zaP.mono _ _ _)
   | (with_reducible exact LeO.refl _)
   | (with_reducible exact LeO.none _)
   | (with_reducible refine LeO.ite ?_ ?_)
   | (with_reducible refine LeO.bind ?_ (fun _ => ?_))
   | exact ih0 _ _ _ _ _ _ _ _ _ _
   | exact ih1 _ _ _ _ _ _ _ _ _ _ _ _
   | exact ih2 _ _ _ _ _ _ _ _ _ _ _ _
   | exact zan.mono _ _ _ _ _ _ _ _ _
   | exact zaD.mono _ _ _ _ _
   | exact zay.mono _ _ _ _ _
   | exact zaP.mono _ _ _
   | exact LeO.none _
   | refine LeO.ite ?_ ?_
   | refine LeO.bind ?_ (fun _ => ?_)
  ·intro y0 y1 y2 y3 y4 y5 y6 y7 y8 y9 y10 y11
   unfold zau.j1
   repeat' first
   | (with_reducible exact ih0 _ _ _ _ _ _ _ _ _ _)
   | (with_reducible exact ih1 _ _ _ _ _ _ _ _ _ _ _ _)
   | (with_reducible exact ih2 _ _ _ _ _ _ _ _ _ _ _ _)
   | (with_reducible exact zan.mono _ _ _ _ _ _ _ _ _)
   | (with_reducible exact zaD.mono _ _ _ _ _)
   | (with_reducible exact zay.mono _ _ _ _ _)
   | (with_reducible exact zaP.mono _ _ _)
   | (with_reducible exact LeO.refl _)
   | (with_reducible exact LeO.none _)
   | (with_reducible refine LeO.ite ?_ ?_)
   | (with_reducible refine LeO.bind ?_ (fun _ => ?_))
   | exact ih0 _ _ _ _ _ _ _ _ _ _
   | exact ih1 _ _ _ _ _ _ _ _ _ _ _ _
   | exact ih2 _ _ _ _ _ _ _ _ _ _ _ _
   | exact zan.mono _ _ _ _ _ _ _ _ _
   | exact zaD.mono _ _ _ _ _
   | exact zay.mono _ _ _ _ _
   | exact zaP.mono _ _ _
   | exact LeO.none _
   | refine LeO.ite ?_ ?_
   | refine LeO.bind ?_ (fun _ => ?_)
  ·intro y0 y1 y2 y3 y4 y5 y6 y7 y8 y9 y10 y11
   unfold zau.l1
   repeat' first
   | (with_reducible exact ih0 _ _ _ _ _ _ _ _ _ _)
   | (with_reducible exact ih1 _ _ _ _ _ _ _ _ _ _ _ _)
   | (with_reducible exact ih2 _ _ _ _ _ _ _ _ _ _ _ _)
   | (with_reducible exact zan.mono _ _ _ _ _ _ _ _ _)
   | (with_reducible exact zaD.mono _ _ _ _ _)
   | (with_reducible exact zay.mono _ _ _ _ _)
   | (with_reducible exact zaP.mono _ _ _)
   | (with_reducible exact LeO.refl _)
   | (with_reducible exact LeO.none _)
   | (with_reducible refine LeO.ite ?_ ?_)
   | (with_reducible refine LeO.bind ?_ (fun _ => ?_))
   | exact ih0 _ _ _ _ _ _ _ _ _ _
   | exact ih1 _ _ _ _ _ _ _ _ _ _ _ _
   | exact ih2 _ _ _ _ _ _ _ _ _ _ _ _
   | exact zan.mono _ _ _ _ _ _ _ _ _
   | exact zaD.mono _ _ _ _ _
   | exact zay.mono _ _ _ _ _
   | exact zaP.mono _ _ _
   | exact LeO.none _
   | refine LeO.ite ?_ ?_
   | refine LeO.bind ?_ (fun _ => ?_)
theorem zau.mono : ∀ a0 a1 a2 a3 k, LeO (zau.f k a0 a1 a2 a3) (zau.f (k + 1) a0 a1 a2 a3) := by
 intro a0 a1 a2 a3 k
 obtain ⟨ih0, ih1, ih2⟩ := zau.zbr k; unfold zau.f
 repeat' first
   | (with_reducible exact ih0 _ _ _ _ _ _ _ _ _ _)
   | (with_reducible exact ih1 _ _ _ _ _ _ _ _ _ _ _ _)
   | (with_reducible exact ih2 _ _ _ _ _ _ _ _ _ _ _ _)
   | (with_reducible exact zan.mono _ _ _ _ _ _ _ _ _)
   | (with_reducible exact zaD.mono _ _ _ _ _)
   | (with_reducible exact zay.mono _ _ _ _ _)
   | (with_reducible exact zaP.mono _ _ _)
   | (with_reducible exact LeO.refl _)
   | (with_reducible exact LeO.none _)
   | (with_reducible refine LeO.ite ?_ ?_)
   | (with_reducible refine LeO.bind ?_ (fun _ => ?_))
   | exact ih0 _ _ _ _ _ _ _ _ _ _
   | exact ih1 _ _ _ _ _ _ _ _ _ _ _ _
   | exact ih2 _ _ _ _ _ _ _ _ _ _ _ _
   | exact zan.mono _ _ _ _ _ _ _ _ _
   | exact zaD.mono _ _ _ _ _
   | exact zay.mono _ _ _ _ _
   | exact zaP.mono _ _ _
   | exact LeO.none _
   | refine LeO.ite ?_ ?_
   | refine LeO.bind ?_ (fun _ => ?_)
set_option maxHeartbeats 8000000 in
set_option maxRecDepth 100000 in
theorem zau.calls (k : Nat) (a0_0 : Int) (a0_1 : Int) (a0_2 : Int) (A0_3 : Option Addr) (c0_3 : Nat) (l0_3 : List (S25)) (r : Bool) (w : World) (hr0_3 : Kd.C k25 w A0_3 l0_3.length l0_3) (hc0_3 : l0_3.length ≤ c0_3) (h : zau.f k a0_0 a0_1 a0_2 l0_3 = some r) :
  Calls Try.prog 6 #[.agg #[.int .u8 a0_0, .int .u8 a0_1, .int .i64 a0_2, .slice A0_3 l0_3.length c0_3]] w fun e w' => e = .returned (.bool r) ∧ Below w.heap.size w w' := by
 have hu25 := Try.underlying25; have hu44 := Try.underlying44; have HR0_3 := zaa.mk hr0_3; have HC0_3 := zaa.mk hc0_3; clear hr0_3 hc0_3; have HB := zaa.mk (Below.refl w.heap.size w); have H : ((zaD.f k a0_0 a0_1 a0_2 l0_3).bind fun bt190 => ((zay.f k a0_0 a0_1 a0_2 l0_3).bind fun t197 => (zau.l0 k t197 0 a0_0 a0_1 a0_2 l0_3 bt190.1 bt190.2.1 bt190.2.2.1 bt190.2.2.2))) = some r := h
 clear h; replace H := Option.bind_eq_some_iff.mp H; obtain ⟨⟨t190, t191, t192, t193⟩, A20, H⟩ := H; replace H : ((zay.f k a0_0 a0_1 a0_2 l0_3).bind fun t197 => (zau.l0 k t197 0 a0_0 a0_1 a0_2 l0_3 t190 t191 t192 t193)) = some r := H
 have A2 := zaa.mk A20; clear A20; replace H := Option.bind_eq_some_iff.mp H; obtain ⟨t197, A30, H⟩ := H; replace H : (zau.l0 k t197 0 a0_0 a0_1 a0_2 l0_3 t190 t191 t192 t193) = some r := H; have A3 := zaa.mk A30; clear A30; have H' := zaa.mk H; clear H; go_enter Try.func6, Try.ntmps6
 go_wp2_with (first | ((with_reducible refine za7 (N := 1) rfl ?_); refine zbl ?hg (N := 1) ?hd (cs := #[.int .u8 a0_0, .int .u8 a0_1, .int .i64 a0_2, .slice A0_3 l0_3.length c0_3]) (t := 25) ?hr ?_; (case hd => rfl); (case hg => rfl); (case hr => first | (go_simp; done) | (go_simp; rfl)); intro gb189 hg w4 hbox hb; have n0_ := zaa.mk (zaG (by repeat (first | exact HB.out | apply zad | apply zac | apply zae)) hb); have n1_ := zaa.mk (hbox); have n2_ := zaa.mk ((by rw [hg]; exact (zaB (by repeat (first | exact HB.out | apply zad | apply zac | apply zae))) : w.heap.size ≤ gb189)); have n3_ := zaa.mk ((by rw [hg]; exact (zaB (by repeat (first | exact HB.out | apply zad | apply zac | apply zae))) : w.heap.size ≤ gb189)); clear HB; have HB := n0_; have BK189 := n1_; have GW189 := n2_; have GE189 := n3_; clear n0_ n1_ n2_ n3_; clear hb hbox hg; have hcz5_0 : w4.cell? ⟨gb189, 0, none⟩ = some (.int .u8 a0_0) := (zaf BK189.out 0).trans rfl; have hcz5_1 : w4.cell? ⟨gb189, 1, none⟩ = some (.int .u8 a0_1) := (zaf BK189.out 1).trans rfl; have hcz5_2 : w4.cell? ⟨gb189, 2, none⟩ = some (.int .i64 a0_2) := (zaf BK189.out 2).trans rfl; have hcz5_3 : w4.cell? ⟨gb189, 3, none⟩ = some (.slice A0_3 l0_3.length c0_3) := (zaf BK189.out 3).trans rfl; have hfz5_0 := zab BK189.out 0; have hfz5_1 := zab BK189.out 1; have hfz5_2 := zab BK189.out 2; have hfz5_3 := zab BK189.out 3) | ((with_reducible refine zaS (f := 10) rfl ?_); refine zbj (some 9) rfl rfl Try.func10 (by kernel_rfl) rfl #[.agg #[.int .u8 a0_0, .int .u8 a0_1, .int .i64 a0_2, .slice A0_3 l0_3.length c0_3]] rfl (by (try simp only [List.map_toArray, List.map_cons, List.map_nil]); first | done | rfl | (simp only [List.length_drop, List.length_take]; rfl)) ?_; (with_reducible refine (zaD.calls k a0_0 a0_1 a0_2 _ _ l0_3 t190 t191 t192 t193 _ ?side1 ?side2 A2.out).mono ?_); (case side1 => repeat (first | exact (Kd.zbH HR0_3.out HB.out) | (with_reducible refine Kd.zb4 ?_ _) | (with_reducible refine Kd.zb3 ?_ _) | (with_reducible refine Kd.zb5 ?_))); (case side2 => exact HC0_3.out); rintro e w6 ⟨v194, rfl, ho0, hb⟩; refine ⟨_, rfl, ?_⟩; have n0_ := zaa.mk (Kd.zbG (Kd.R_newB ho0 (g := gb189) (o := .cells #[.int .u8 a0_0, .int .u8 a0_1, .int .i64 a0_2, .slice A0_3 l0_3.length c0_3] 25 (0, 0)) (by (with_reducible repeat (first | refine zar ?_ _ | refine zav ?_ | refine zas ?_ _)); exact BK189.out)) (zaB (by repeat (first | (with_reducible first | exact HB.out | apply zad | apply zac | apply zae | refine zaq ?_ GE189.out) | exact HB.out)))); have n1_ := zaa.mk (zaX (g := gb189) (o := .cells #[.int .u8 a0_0, .int .u8 a0_1, .int .i64 a0_2, .slice A0_3 l0_3.length c0_3] 25 (0, 0)) (by (with_reducible repeat (first | refine zar ?_ _ | refine zav ?_ | refine zas ?_ _)); exact BK189.out) hb); have n2_ := zaa.mk (zaG (by repeat (first | (with_reducible first | exact HB.out | apply zad | apply zac | apply zae | refine zaq ?_ GE189.out) | exact HB.out)) hb); clear BK189; clear HB; have HO195 := n0_; have BK189 := n1_; have HB := n2_; clear n0_ n1_ n2_; (try clear hb); (try clear hb2); (try clear hk); (try clear hi); (try clear ho0)) | ((with_reducible refine za7 (N := 3) rfl ?_); refine zbl ?hg (N := 3) ?hd (cs := #[.int .u8 0, .int .u8 0, .int .i64 0, .slice none 0 0]) (t := 25) ?hr ?_; (case hd => rfl); (case hg => rfl); (case hr => first | (go_simp; done) | (go_simp; rfl)); intro gb196 hg w7 hbox hb; have n0_ := zaa.mk (Kd.zbT (Kd.R_elderB (by (with_reducible repeat (first | apply Kd.za3 | apply Kd.za2 | apply Kd.za8)); exact HO195.out) gb196 (Nat.le_of_eq hg.symm)) hb); have n1_ := zaa.mk (zaX (g := gb189) (o := .cells #[.int .u8 a0_0, .int .u8 a0_1, .int .i64 a0_2, .slice A0_3 l0_3.length c0_3] 25 (0, 0)) (by (with_reducible repeat (first | refine zar ?_ _ | refine zav ?_ | refine zas ?_ _)); exact BK189.out) hb); have n2_ := zaa.mk (zaG (by repeat (first | (with_reducible first | exact HB.out | apply zad | apply zac | apply zae | refine zaq ?_ GE189.out) | exact HB.out)) hb); have n3_ := zaa.mk (hbox); have n4_ := zaa.mk ((by rw [hg]; exact (zaB (by repeat (first | (with_reducible first | exact HB.out | apply zad | apply zac | apply zae | refine zaq ?_ GE189.out) | exact HB.out))) : w.heap.size ≤ gb196)); have n5_ := zaa.mk ((by rw [hg]; exact (zaB (by repeat (first | (with_reducible first | exact HB.out | apply zad | apply zac | apply zae | refine zaq ?_ GE189.out) | exact HB.out))) : w.heap.size ≤ gb196)); have n6_ := zaa.mk ((by rw [hg]; exact Nat.ne_of_lt (za9 (g := gb189) (o := .cells #[.int .u8 a0_0, .int .u8 a0_1, .int .i64 a0_2, .slice A0_3 l0_3.length c0_3] 25 (0, 0)) (by (with_reducible repeat (first | refine zar ?_ _ | refine zav ?_ | refine zas ?_ _)); exact BK189.out)) : gb189 ≠ gb196)); have n7_ := zaa.mk ((by rw [hg]; exact Nat.ne_of_gt (za9 (g := gb189) (o := .cells #[.int .u8 a0_0, .int .u8 a0_1, .int .i64 a0_2, .slice A0_3 l0_3.length c0_3] 25 (0, 0)) (by (with_reducible repeat (first | refine zar ?_ _ | refine zav ?_ | refine zas ?_ _)); exact BK189.out)) : gb196 ≠ gb189)); clear HO195; clear BK189; clear HB; have HO195 := n0_; have BK189 := n1_; have HB := n2_; have BK196 := n3_; have GW196 := n4_; have GE196 := n5_; have NB189_196 := n6_; have NB196_189 := n7_; clear n0_ n1_ n2_ n3_ n4_ n5_ n6_ n7_; clear hb hbox hg; have hnb8 := NB196_189.out; have hnc8 := NB189_196.out; have hcz9_0 : w7.cell? ⟨gb196, 0, none⟩ = some (.int .u8 0) := (zaf BK196.out 0).trans rfl; have hcz9_1 : w7.cell? ⟨gb196, 1, none⟩ = some (.int .u8 0) := (zaf BK196.out 1).trans rfl; have hcz9_2 : w7.cell? ⟨gb196, 2, none⟩ = some (.int .i64 0) := (zaf BK196.out 2).trans rfl; have hcz9_3 : w7.cell? ⟨gb196, 3, none⟩ = some (.slice none 0 0) := (zaf BK196.out 3).trans rfl; have hfz9_0 := zab BK196.out 0; have hfz9_1 := zab BK196.out 1; have hfz9_2 := zab BK196.out 2; have hfz9_3 := zab BK196.out 3; obtain ⟨Ao10, co10, eo10⟩ := Kd.zbB HO195.out; subst eo10; have hcz11_0 : w7.cell? ⟨gb189, 0, none⟩ = some (.int .u8 a0_0) := (zaf BK189.out 0).trans rfl; have hcz11_1 : w7.cell? ⟨gb189, 1, none⟩ = some (.int .u8 a0_1) := (zaf BK189.out 1).trans rfl; have hcz11_2 : w7.cell? ⟨gb189, 2, none⟩ = some (.int .i64 a0_2) := (zaf BK189.out 2).trans rfl; have hcz11_3 : w7.cell? ⟨gb189, 3, none⟩ = some (.slice A0_3 l0_3.length c0_3) := (zaf BK189.out 3).trans rfl; have hfz11_0 := zab BK189.out 0; have hfz11_1 := zab BK189.out 1; have hfz11_2 := zab BK189.out 2; have hfz11_3 := zab BK189.out 3) | ((with_reducible refine zaS (f := 11) rfl ?_); refine zbj (some 11) rfl rfl Try.func11 (by kernel_rfl) rfl #[.agg #[.int .u8 a0_0, .int .u8 a0_1, .int .i64 a0_2, .slice A0_3 l0_3.length c0_3]] rfl (by (try simp only [List.map_toArray, List.map_cons, List.map_nil]); first | done | rfl | (simp only [List.length_drop, List.length_take]; rfl)) ?_; (with_reducible refine (zay.calls k a0_0 a0_1 a0_2 _ _ l0_3 t197 _ ?side1 ?side2 A3.out).mono ?_); (case side1 => exact Kd.zbH HR0_3.out (by repeat (first | (with_reducible first | exact HB.out | apply zad | apply zac | apply zae | refine zaq ?_ GE189.out | refine zaq ?_ GE196.out) | exact HB.out))); (case side2 => exact HC0_3.out); rintro e w12 ⟨v198, rfl, ho0, hb⟩; refine ⟨_, rfl, ?_⟩; have n0_ := zaa.mk (Kd.zbT (by (with_reducible repeat (first | apply Kd.za3 | apply Kd.za2 | apply Kd.za8)); exact (Kd.zbV (Kd.R_far (p := ⟨gb196, 3, none⟩) (Kd.R_far (p := ⟨gb196, 2, none⟩) (Kd.R_far (p := ⟨gb196, 1, none⟩) (Kd.R_far (p := ⟨gb196, 0, none⟩) (Kd.zbV HO195.out (fun k_ hk => (⟨hk, hk.2⟩ : _ ∧ k_ ≠ gb196))) (fun _ hk => hk.2) (.int .u8 t190)) (fun _ hk => hk.2) (.int .u8 t191)) (fun _ hk => hk.2) (.int .i64 t192)) (fun _ hk => hk.2) (.slice Ao10 t193.length co10)) (fun _ h_ => h_.1))) hb); have n1_ := zaa.mk (Kd.zbG ho0 (zaB (by repeat (first | (with_reducible first | exact HB.out | apply zad | apply zac | apply zae | refine zaq ?_ GE189.out | refine zaq ?_ GE196.out) | exact HB.out)))); have n2_ := zaa.mk (zaX (g := gb189) (o := .cells #[.int .u8 a0_0, .int .u8 a0_1, .int .i64 a0_2, .slice A0_3 l0_3.length c0_3] 25 (0, 0)) (by (with_reducible repeat (first | refine zar ?_ _ | refine zav ?_ | refine zas ?_ _)); refine zb7 ?_ NB189_196.out _; (with_reducible repeat (first | refine zar ?_ _ | refine zav ?_ | refine zas ?_ _)); refine zb7 ?_ NB189_196.out _; (with_reducible repeat (first | refine zar ?_ _ | refine zav ?_ | refine zas ?_ _)); refine zb7 ?_ NB189_196.out _; (with_reducible repeat (first | refine zar ?_ _ | refine zav ?_ | refine zas ?_ _)); refine zb7 ?_ NB189_196.out _; (with_reducible repeat (first | refine zar ?_ _ | refine zav ?_ | refine zas ?_ _)); exact BK189.out) hb); have n3_ := zaa.mk (zaX (g := gb196) (o := .cells #[.int .u8 t190, .int .u8 t191, .int .i64 t192, .slice Ao10 t193.length co10] 25 (0, 0)) (by (with_reducible repeat (first | refine zar ?_ _ | refine zav ?_ | refine zas ?_ _)); refine zbv (cs := #[.int .u8 t190, .int .u8 t191, .int .i64 t192, .slice none 0 0]) ?_ 3 _ rfl; (with_reducible repeat (first | refine zar ?_ _ | refine zav ?_ | refine zas ?_ _)); refine zbv (cs := #[.int .u8 t190, .int .u8 t191, .int .i64 0, .slice none 0 0]) ?_ 2 _ rfl; (with_reducible repeat (first | refine zar ?_ _ | refine zav ?_ | refine zas ?_ _)); refine zbv (cs := #[.int .u8 t190, .int .u8 0, .int .i64 0, .slice none 0 0]) ?_ 1 _ rfl; (with_reducible repeat (first | refine zar ?_ _ | refine zav ?_ | refine zas ?_ _)); refine zbv (cs := #[.int .u8 0, .int .u8 0, .int .i64 0, .slice none 0 0]) ?_ 0 _ rfl; (with_reducible repeat (first | refine zar ?_ _ | refine zav ?_ | refine zas ?_ _)); exact BK196.out) hb); have n4_ := zaa.mk (zaG (by repeat (first | (with_reducible first | exact HB.out | apply zad | apply zac | apply zae | refine zaq ?_ GE189.out | refine zaq ?_ GE196.out) | exact HB.out)) hb); clear HO195; clear BK189; clear BK196; clear HB; have HO195 := n0_; have HO199 := n1_; have BK189 := n2_; have BK196 := n3_; have HB := n4_; clear n0_ n1_ n2_ n3_ n4_; (try clear hb); (try clear hb2); (try clear hk); (try clear hi); (try clear ho0)))
 go_loopg [5] k (fun kq v5 w' => ∃ (x4_1 : List (S44)) (x5_1 : Int), v5 = .int .i64 x5_1 ∧ zaa (zau.l0 kq x4_1 x5_1 a0_0 a0_1 a0_2 l0_3 t190 t191 t192 t193 = some r) ∧ zaa (kq ≤ k) ∧ zaa (Kd.R k44 44 w' w.heap.size (fun _ => True) v198 x4_1) ∧ zaa (Kd.R k25 25 w' w.heap.size (fun k_ => k_ ≠ gb189 ∧ k_ ≠ gb196) (.slice Ao10 t193.length co10) t193) ∧ zaa (w'.heap[gb189]? = some (.cells #[.int .u8 a0_0, .int .u8 a0_1, .int .i64 a0_2, (.slice A0_3 l0_3.length c0_3)] 25 (0, 0))) ∧ zaa (w'.heap[gb196]? = some (.cells #[.int .u8 t190, .int .u8 t191, .int .i64 t192, (.slice Ao10 t193.length co10)] 25 (0, 0))) ∧ zaa (Below w.heap.size w w'))
 case atStart => exact ⟨(t197), (0), (by first | rfl | (simp; done) | (simp [*]; done)), H', ⟨Nat.le_refl _⟩, ⟨by (with_reducible repeat (first | apply Kd.za3 | apply Kd.za2 | apply Kd.za8)); exact HO199.out⟩, ⟨by (with_reducible repeat (first | apply Kd.za3 | apply Kd.za2 | apply Kd.za8)); exact Kd.zbV HO195.out (fun _ hk => ⟨hk.1.2, hk.2⟩)⟩, ⟨by (with_reducible repeat (first | refine zar ?_ _ | refine zav ?_ | refine zas ?_ _)); exact BK189.out⟩, ⟨by (with_reducible repeat (first | refine zar ?_ _ | refine zav ?_ | refine zas ?_ _)); exact BK196.out⟩, ⟨by repeat (first | (with_reducible first | exact HB.out | apply zad | apply zac | apply zae | refine zaq ?_ GE189.out | refine zaq ?_ GE196.out) | exact HB.out)⟩⟩
 case round =>
  clear H'; try clear c1
  try clear p2
  try clear c6
  try clear c8
  try clear c10
  try clear c11
  try clear hcz11_0
  try clear hcz11_1
  try clear hcz11_2
  try clear hcz11_3
  try clear hcz5_0
  try clear hcz5_1
  try clear hcz5_2
  try clear hcz5_3
  try clear hcz9_0
  try clear hcz9_1
  try clear hcz9_2
  try clear hcz9_3
  try clear hfz11_0
  try clear hfz11_1
  try clear hfz11_2
  try clear hfz11_3
  try clear hfz5_0
  try clear hfz5_1
  try clear hfz5_2
  try clear hfz5_3
  try clear hfz9_0
  try clear hfz9_1
  try clear hfz9_2
  try clear hfz9_3
  obtain ⟨x4_1, x5_1, rfl, HA, HK1, HO_4, HO_197003, BK189, BK196, HB⟩ := hrel; cases gk with
  | zero => exact absurd HA.out (by simp [zau.l0])
  | succ k1 =>
   have H := HA.out; clear HA; simp only [zau.l0] at H; by_cases c13 : x5_1 < 2
   ·rw [if_pos c13] at H
    have c13b0 : decide (x5_1 < 2) = true := decide_eq_true c13; clear c13; replace H := Option.bind_eq_some_iff.mp H; obtain ⟨t200, A140, H⟩ := H; replace H : ((zaP.f k1 t200 x4_1).bind fun t203 => (if t203 = true then ((zan.f k1 t190 t191 t192 t193 a0_0 a0_1 a0_2 l0_3).bind fun t204 => (zau.j1 k1 x4_1 x5_1 t200 (!t204) a0_0 a0_1 a0_2 l0_3 t190 t191 t192 t193)) else (zau.j1 k1 x4_1 x5_1 t200 true a0_0 a0_1 a0_2 l0_3 t190 t191 t192 t193))) = some r := H
    have A14 := zaa.mk A140; clear A140; have HC15 := zaa.mk H; clear H; have hnb16 := NB196_189.out; have hnc16 := NB189_196.out; have hcz17_0 : wr.cell? ⟨gb196, 0, none⟩ = some (.int .u8 t190) := (zaf BK196.out 0).trans rfl; have hcz17_1 : wr.cell? ⟨gb196, 1, none⟩ = some (.int .u8 t191) := (zaf BK196.out 1).trans rfl; have hcz17_2 : wr.cell? ⟨gb196, 2, none⟩ = some (.int .i64 t192) := (zaf BK196.out 2).trans rfl; have hcz17_3 : wr.cell? ⟨gb196, 3, none⟩ = some (.slice Ao10 t193.length co10) := (zaf BK196.out 3).trans rfl; have hfz17_0 := zab BK196.out 0; have hfz17_1 := zab BK196.out 1; have hfz17_2 := zab BK196.out 2; have hfz17_3 := zab BK196.out 3; go_upto_region 7 with (first | ((with_reducible refine zaS (f := 12) rfl ?_); refine zbj (some 17) rfl rfl Try.func12 (by kernel_rfl) rfl #[.agg #[.int .u8 t190, .int .u8 t191, .int .i64 t192, .slice Ao10 t193.length co10]] rfl (by (try simp only [List.map_toArray, List.map_cons, List.map_nil]); first | done | rfl | (simp only [List.length_drop, List.length_take]; rfl)) ?_; (with_reducible refine (faults_Of.calls t190 t191 t192 _ _ t193 t200 _ ?side1 ?side2 A14.out).mono ?_); (case side1 => repeat (first | exact (Kd.zbt HO_197003.out).2.2 | (with_reducible refine Kd.zb4 ?_ _) | (with_reducible refine Kd.zb3 ?_ _) | (with_reducible refine Kd.zb5 ?_))); (case side2 => exact (Kd.zbt HO_197003.out).2.1); rintro e w18 ⟨v201, rfl, ho0, hb⟩; refine ⟨_, rfl, ?_⟩; have n0_ := zaa.mk (Kd.R_elder' (by (with_reducible repeat (first | apply Kd.za3 | apply Kd.za2 | apply Kd.za8)); exact HO_4.out) (Kd.R_base ho0) hb); have n1_ := zaa.mk (Kd.zbT (by (with_reducible repeat (first | apply Kd.za3 | apply Kd.za2 | apply Kd.za8)); exact HO_197003.out) hb); have n2_ := zaa.mk (Kd.zbG (Kd.R_new' ho0 (Kd.R_lt (by (with_reducible repeat (first | apply Kd.za3 | apply Kd.za2 | apply Kd.za8)); exact HO_4.out))) (zaB (by repeat (first | (with_reducible first | exact HB.out | apply zad | apply zac | apply zae | refine zaq ?_ GE189.out | refine zaq ?_ GE196.out) | exact HB.out)))); have n3_ := zaa.mk (zaX (g := gb189) (o := .cells #[.int .u8 a0_0, .int .u8 a0_1, .int .i64 a0_2, .slice A0_3 l0_3.length c0_3] 25 (0, 0)) (by (with_reducible repeat (first | refine zar ?_ _ | refine zav ?_ | refine zas ?_ _)); exact BK189.out) hb); have n4_ := zaa.mk (zaX (g := gb196) (o := .cells #[.int .u8 t190, .int .u8 t191, .int .i64 t192, .slice Ao10 t193.length co10] 25 (0, 0)) (by (with_reducible repeat (first | refine zar ?_ _ | refine zav ?_ | refine zas ?_ _)); exact BK196.out) hb); have n5_ := zaa.mk (zaG (by repeat (first | (with_reducible first | exact HB.out | apply zad | apply zac | apply zae | refine zaq ?_ GE189.out | refine zaq ?_ GE196.out) | exact HB.out)) hb); clear HO_4; clear HO_197003; clear BK189; clear BK196; clear HB; have HO_4 := n0_; have HO_197003 := n1_; have HO202 := n2_; have BK189 := n3_; have BK196 := n4_; have HB := n5_; clear n0_ n1_ n2_ n3_ n4_ n5_; (try clear hb); (try clear hb2); (try clear hk); (try clear hi); (try clear ho0)))
    (try simp only [Act.put, zaw])
    go_cut [27] (fun v27 wc => ∃ (kq : Nat) (x27_14 : Bool), v27 = .bool x27_14 ∧ zaa (zau.j1 kq x4_1 x5_1 t200 x27_14 a0_0 a0_1 a0_2 l0_3 t190 t191 t192 t193 = some r) ∧ zaa (kq ≤ k1) ∧ zaa (Kd.R k44 44 wc w.heap.size (fun k_ => some k_ ≠ (v201 : Value).ownBlock) v198 x4_1) ∧ zaa (Kd.R k44 44 wc w.heap.size (fun k_ => some k_ ≠ (v198 : Value).ownBlock) v201 t200) ∧ zaa (Kd.R k25 25 wc w.heap.size (fun k_ => k_ ≠ gb189 ∧ k_ ≠ gb196) (.slice Ao10 t193.length co10) t193) ∧ zaa (wc.heap[gb189]? = some (.cells #[.int .u8 a0_0, .int .u8 a0_1, .int .i64 a0_2, (.slice A0_3 l0_3.length c0_3)] 25 (0, 0))) ∧ zaa (wc.heap[gb196]? = some (.cells #[.int .u8 t190, .int .u8 t191, .int .i64 t192, (.slice Ao10 t193.length co10)] 25 (0, 0))) ∧ zaa (Below w.heap.size w wc))
    case first =>
     have H := HC15.out; clear HC15; replace H := Option.bind_eq_some_iff.mp H; obtain ⟨t203, A190, H⟩ := H; replace H : (if t203 = true then ((zan.f k1 t190 t191 t192 t193 a0_0 a0_1 a0_2 l0_3).bind fun t204 => (zau.j1 k1 x4_1 x5_1 t200 (!t204) a0_0 a0_1 a0_2 l0_3 t190 t191 t192 t193)) else (zau.j1 k1 x4_1 x5_1 t200 true a0_0 a0_1 a0_2 l0_3 t190 t191 t192 t193)) = some r := H
     have A19 := zaa.mk A190; clear A190; by_cases c20 : t203 = true
     ·subst c20
      have H1 : ((zan.f k1 t190 t191 t192 t193 a0_0 a0_1 a0_2 l0_3).bind fun t204 => (zau.j1 k1 x4_1 x5_1 t200 (!t204) a0_0 a0_1 a0_2 l0_3 t190 t191 t192 t193)) = some r := by rw [if_pos rfl] at H; exact H
      clear H; have H := H1; clear H1; replace H := Option.bind_eq_some_iff.mp H; obtain ⟨t204, A210, H⟩ := H; replace H : (zau.j1 k1 x4_1 x5_1 t200 (!t204) a0_0 a0_1 a0_2 l0_3 t190 t191 t192 t193) = some r := H; have A21 := zaa.mk A210; clear A210; have H' := zaa.mk H; clear H; obtain ⟨Ao22, co22, eo22⟩ := Kd.zbB HO202.out; subst eo22; obtain ⟨Ao23, co23, eo23⟩ := Kd.zbB HO_4.out; subst eo23; go_wp2_with (first | ((with_reducible refine zaS (f := 13) rfl ?_); refine zbj (some 20) rfl rfl Try.func13 (by kernel_rfl) rfl #[.slice Ao22 t200.length co22, .slice Ao23 x4_1.length co23] rfl (by (try simp only [List.map_toArray, List.map_cons, List.map_nil]); first | done | rfl | (simp only [List.length_drop, List.length_take]; rfl)) ?_; (with_reducible refine (zaP.calls k1 _ _ t200 _ _ x4_1 true _ ?side1 ?side2 ?side3 ?side4 A19.out).mono ?_); (case side1 => repeat (first | exact (Kd.zbt HO202.out).2.2 | (with_reducible refine Kd.zb4 ?_ _) | (with_reducible refine Kd.zb3 ?_ _) | (with_reducible refine Kd.zb5 ?_))); (case side2 => exact (Kd.zbt HO202.out).2.1); (case side3 => repeat (first | exact (Kd.zbt HO_4.out).2.2 | (with_reducible refine Kd.zb4 ?_ _) | (with_reducible refine Kd.zb3 ?_ _) | (with_reducible refine Kd.zb5 ?_))); (case side4 => exact (Kd.zbt HO_4.out).2.1); rintro e w' ⟨rfl, ⟨nd, rfl⟩⟩; refine ⟨_, rfl, ?_⟩; have hnb24 := NB196_189.out; have hnc24 := NB189_196.out; have hcz25_0 : w18.cell? ⟨gb196, 0, none⟩ = some (.int .u8 t190) := (zaf BK196.out 0).trans rfl; have hcz25_1 : w18.cell? ⟨gb196, 1, none⟩ = some (.int .u8 t191) := (zaf BK196.out 1).trans rfl; have hcz25_2 : w18.cell? ⟨gb196, 2, none⟩ = some (.int .i64 t192) := (zaf BK196.out 2).trans rfl; have hcz25_3 : w18.cell? ⟨gb196, 3, none⟩ = some (.slice Ao10 t193.length co10) := (zaf BK196.out 3).trans rfl; have hfz25_0 := zab BK196.out 0; have hfz25_1 := zab BK196.out 1; have hfz25_2 := zab BK196.out 2; have hfz25_3 := zab BK196.out 3; have hcz26_0 : w18.cell? ⟨gb189, 0, none⟩ = some (.int .u8 a0_0) := (zaf BK189.out 0).trans rfl; have hcz26_1 : w18.cell? ⟨gb189, 1, none⟩ = some (.int .u8 a0_1) := (zaf BK189.out 1).trans rfl; have hcz26_2 : w18.cell? ⟨gb189, 2, none⟩ = some (.int .i64 a0_2) := (zaf BK189.out 2).trans rfl; have hcz26_3 : w18.cell? ⟨gb189, 3, none⟩ = some (.slice A0_3 l0_3.length c0_3) := (zaf BK189.out 3).trans rfl; have hfz26_0 := zab BK189.out 0; have hfz26_1 := zab BK189.out 1; have hfz26_2 := zab BK189.out 2; have hfz26_3 := zab BK189.out 3) | (go_at_call 14; (with_reducible refine (zan.calls k1 t190 t191 t192 _ _ t193 a0_0 a0_1 a0_2 _ _ l0_3 t204 _ ?side1 ?side2 ?side3 ?side4 A21.out).mono ?_); (case side1 => repeat (first | exact (Kd.zbt HO_197003.out).2.2 | (with_reducible refine Kd.zb4 ?_ _) | (with_reducible refine Kd.zb3 ?_ _) | (with_reducible refine Kd.zb5 ?_))); (case side2 => exact (Kd.zbt HO_197003.out).2.1); (case side3 => repeat (first | exact (Kd.zbH HR0_3.out (by repeat (first | (with_reducible first | exact HB.out | apply zad | apply zac | apply zae | refine zaq ?_ GE189.out | refine zaq ?_ GE196.out) | exact HB.out))) | (with_reducible refine Kd.zb4 ?_ _) | (with_reducible refine Kd.zb3 ?_ _) | (with_reducible refine Kd.zb5 ?_))); (case side4 => exact HC0_3.out); rintro e w27 ⟨rfl, hb⟩; have n0_ := zaa.mk (Kd.zbT (by (with_reducible repeat (first | apply Kd.za3 | apply Kd.za2 | apply Kd.za8)); exact HO_4.out) hb); have n1_ := zaa.mk (Kd.zbT (by (with_reducible repeat (first | apply Kd.za3 | apply Kd.za2 | apply Kd.za8)); exact HO_197003.out) hb); have n2_ := zaa.mk (Kd.zbT (by (with_reducible repeat (first | apply Kd.za3 | apply Kd.za2 | apply Kd.za8)); exact HO202.out) hb); have n3_ := zaa.mk (zaX (g := gb189) (o := .cells #[.int .u8 a0_0, .int .u8 a0_1, .int .i64 a0_2, .slice A0_3 l0_3.length c0_3] 25 (0, 0)) (by (with_reducible repeat (first | refine zar ?_ _ | refine zav ?_ | refine zas ?_ _)); exact BK189.out) hb); have n4_ := zaa.mk (zaX (g := gb196) (o := .cells #[.int .u8 t190, .int .u8 t191, .int .i64 t192, .slice Ao10 t193.length co10] 25 (0, 0)) (by (with_reducible repeat (first | refine zar ?_ _ | refine zav ?_ | refine zas ?_ _)); exact BK196.out) hb); have n5_ := zaa.mk (zaG (by repeat (first | (with_reducible first | exact HB.out | apply zad | apply zac | apply zae | refine zaq ?_ GE189.out | refine zaq ?_ GE196.out) | exact HB.out)) hb); clear HO_4; clear HO_197003; clear HO202; clear BK189; clear BK196; clear HB; have HO_4 := n0_; have HO_197003 := n1_; have HO202 := n2_; have BK189 := n3_; have BK196 := n4_; have HB := n5_; clear n0_ n1_ n2_ n3_ n4_ n5_; (try clear hb); (try clear hb2); (try clear hk); (try clear hi)))
      go_meet
      case rel => exact ⟨_, (!t204), (by first | rfl | (simp; done) | (simp [*]; done)), H', ⟨by have := HK1.out; first | omega | exact Nat.le_refl _⟩, ⟨by (with_reducible repeat (first | apply Kd.za3 | apply Kd.za2 | apply Kd.za8)); exact Kd.zbV HO_4.out (fun _ hk => hk.2)⟩, ⟨by (with_reducible repeat (first | apply Kd.za3 | apply Kd.za2 | apply Kd.za8)); exact Kd.zbV HO202.out (fun _ hk => hk.2)⟩, ⟨by (with_reducible repeat (first | apply Kd.za3 | apply Kd.za2 | apply Kd.za8)); exact HO_197003.out⟩, ⟨by (with_reducible repeat (first | refine zar ?_ _ | refine zav ?_ | refine zas ?_ _)); exact BK189.out⟩, ⟨by (with_reducible repeat (first | refine zar ?_ _ | refine zav ?_ | refine zas ?_ _)); exact BK196.out⟩, ⟨by repeat (first | (with_reducible first | exact HB.out | apply zad | apply zac | apply zae | refine zaq ?_ GE189.out | refine zaq ?_ GE196.out) | exact HB.out)⟩⟩
     ·replace c20 := Bool.eq_false_iff.mpr c20
      subst c20; have H1 : (zau.j1 k1 x4_1 x5_1 t200 true a0_0 a0_1 a0_2 l0_3 t190 t191 t192 t193) = some r := by rw [if_neg (show ¬ (false = true) by decide)] at H; exact H
      clear H; have H := H1; clear H1; have H' := zaa.mk H; clear H; obtain ⟨Ao28, co28, eo28⟩ := Kd.zbB HO202.out; subst eo28; obtain ⟨Ao29, co29, eo29⟩ := Kd.zbB HO_4.out; subst eo29; go_wp2_with (first | ((with_reducible refine zaS (f := 13) rfl ?_); refine zbj (some 20) rfl rfl Try.func13 (by kernel_rfl) rfl #[.slice Ao28 t200.length co28, .slice Ao29 x4_1.length co29] rfl (by (try simp only [List.map_toArray, List.map_cons, List.map_nil]); first | done | rfl | (simp only [List.length_drop, List.length_take]; rfl)) ?_; (with_reducible refine (zaP.calls k1 _ _ t200 _ _ x4_1 false _ ?side1 ?side2 ?side3 ?side4 A19.out).mono ?_); (case side1 => repeat (first | exact (Kd.zbt HO202.out).2.2 | (with_reducible refine Kd.zb4 ?_ _) | (with_reducible refine Kd.zb3 ?_ _) | (with_reducible refine Kd.zb5 ?_))); (case side2 => exact (Kd.zbt HO202.out).2.1); (case side3 => repeat (first | exact (Kd.zbt HO_4.out).2.2 | (with_reducible refine Kd.zb4 ?_ _) | (with_reducible refine Kd.zb3 ?_ _) | (with_reducible refine Kd.zb5 ?_))); (case side4 => exact (Kd.zbt HO_4.out).2.1); rintro e w' ⟨rfl, ⟨nd, rfl⟩⟩; refine ⟨_, rfl, ?_⟩))
      go_meet
      case rel => exact ⟨_, (true), (by first | rfl | (simp; done) | (simp [*]; done)), H', ⟨by have := HK1.out; first | omega | exact Nat.le_refl _⟩, ⟨by (with_reducible repeat (first | apply Kd.za3 | apply Kd.za2 | apply Kd.za8)); exact Kd.zbV HO_4.out (fun _ hk => hk.2)⟩, ⟨by (with_reducible repeat (first | apply Kd.za3 | apply Kd.za2 | apply Kd.za8)); exact Kd.zbV HO202.out (fun _ hk => hk.2)⟩, ⟨by (with_reducible repeat (first | apply Kd.za3 | apply Kd.za2 | apply Kd.za8)); exact HO_197003.out⟩, ⟨by (with_reducible repeat (first | refine zar ?_ _ | refine zav ?_ | refine zas ?_ _)); exact BK189.out⟩, ⟨by (with_reducible repeat (first | refine zar ?_ _ | refine zav ?_ | refine zas ?_ _)); exact BK196.out⟩, ⟨by repeat (first | (with_reducible first | exact HB.out | apply zad | apply zac | apply zae | refine zaq ?_ GE189.out | refine zaq ?_ GE196.out) | exact HB.out)⟩⟩
    case rest =>
     clear HC15; try clear c1
     try clear c2
     try clear p2
     try clear c6
     try clear c8
     try clear c10
     try clear c11
     try clear c12
     try clear c13
     try clear c13b0
     try clear c16
     try clear c20
     try clear c24
     try clear hcz11_0
     try clear hcz11_1
     try clear hcz11_2
     try clear hcz11_3
     try clear hcz17_0
     try clear hcz17_1
     try clear hcz17_2
     try clear hcz17_3
     try clear hcz25_0
     try clear hcz25_1
     try clear hcz25_2
     try clear hcz25_3
     try clear hcz26_0
     try clear hcz26_1
     try clear hcz26_2
     try clear hcz26_3
     try clear hcz5_0
     try clear hcz5_1
     try clear hcz5_2
     try clear hcz5_3
     try clear hcz9_0
     try clear hcz9_1
     try clear hcz9_2
     try clear hcz9_3
     try clear hfz11_0
     try clear hfz11_1
     try clear hfz11_2
     try clear hfz11_3
     try clear hfz17_0
     try clear hfz17_1
     try clear hfz17_2
     try clear hfz17_3
     try clear hfz25_0
     try clear hfz25_1
     try clear hfz25_2
     try clear hfz25_3
     try clear hfz26_0
     try clear hfz26_1
     try clear hfz26_2
     try clear hfz26_3
     try clear hfz5_0
     try clear hfz5_1
     try clear hfz5_2
     try clear hfz5_3
     try clear hfz9_0
     try clear hfz9_1
     try clear hfz9_2
     try clear hfz9_3
     try clear p2
     obtain ⟨kq, x27_14, rfl, HA, HJ14, HO_4, HO_6, HO_197003, BK189, BK196, HB⟩ := hcut; cases kq with
     | zero => exact absurd HA.out (by simp [zau.j1])
     | succ kj14 =>
      have H := HA.out; clear HA; simp only [zau.j1] at H; by_cases c30 : x27_14 = true
      ·subst c30
       have H1 : (some false) = some r := by rw [if_pos rfl] at H; exact H
       clear H; have H := H1; clear H1; obtain rfl := Option.some.inj H; go_wp2
       go_ret
       exact ⟨by first | rfl | (simp [*, zaF, zaE] <;> rfl), by repeat (first | (with_reducible first | exact HB.out | apply zad | apply zac | apply zae | refine zaq ?_ GE189.out | refine zaq ?_ GE196.out) | exact HB.out)⟩
      ·replace c30 := Bool.eq_false_iff.mpr c30
       subst c30; have H1 : (zau.l1 kj14 x4_1 x5_1 t200 0 a0_0 a0_1 a0_2 l0_3 t190 t191 t192 t193) = some r := by rw [if_neg (show ¬ (false = true) by decide)] at H; exact H
       clear H; have H := H1; clear H1; have H' := zaa.mk H; clear H; go_wp2
       go_loopg [7] kj14 (fun kq v7 w' => ∃ (x6_3 : List (S44)) (x7_3 : Int), v7 = .int .i64 x7_3 ∧ zaa (zau.l1 kq x4_1 x5_1 x6_3 x7_3 a0_0 a0_1 a0_2 l0_3 t190 t191 t192 t193 = some r) ∧ zaa (kq ≤ kj14) ∧ zaa (Kd.R k44 44 w' w.heap.size (fun k_ => some k_ ≠ (v201 : Value).ownBlock) v198 x4_1) ∧ zaa (Kd.R k44 44 w' w.heap.size (fun k_ => some k_ ≠ (v198 : Value).ownBlock) v201 x6_3) ∧ zaa (Kd.R k25 25 w' w.heap.size (fun k_ => k_ ≠ gb189 ∧ k_ ≠ gb196) (.slice Ao10 t193.length co10) t193) ∧ zaa (w'.heap[gb189]? = some (.cells #[.int .u8 a0_0, .int .u8 a0_1, .int .i64 a0_2, (.slice A0_3 l0_3.length c0_3)] 25 (0, 0))) ∧ zaa (w'.heap[gb196]? = some (.cells #[.int .u8 t190, .int .u8 t191, .int .i64 t192, (.slice Ao10 t193.length co10)] 25 (0, 0))) ∧ zaa (Below w.heap.size w w'))
       case atStart => exact ⟨(t200), (0), (by first | rfl | (simp; done) | (simp [*]; done)), H', ⟨Nat.le_refl _⟩, ⟨by (with_reducible repeat (first | apply Kd.za3 | apply Kd.za2 | apply Kd.za8)); exact HO_4.out⟩, ⟨by (with_reducible repeat (first | apply Kd.za3 | apply Kd.za2 | apply Kd.za8)); exact HO_6.out⟩, ⟨by (with_reducible repeat (first | apply Kd.za3 | apply Kd.za2 | apply Kd.za8)); exact HO_197003.out⟩, ⟨by (with_reducible repeat (first | refine zar ?_ _ | refine zav ?_ | refine zas ?_ _)); exact BK189.out⟩, ⟨by (with_reducible repeat (first | refine zar ?_ _ | refine zav ?_ | refine zas ?_ _)); exact BK196.out⟩, ⟨by repeat (first | (with_reducible first | exact HB.out | apply zad | apply zac | apply zae | refine zaq ?_ GE189.out | refine zaq ?_ GE196.out) | exact HB.out)⟩⟩
       case round =>
        clear H'; try clear c1
        try clear c2
        try clear p2
        try clear c3
        try clear c6
        try clear c8
        try clear c10
        try clear c11
        try clear c12
        try clear c13
        try clear c13b0
        try clear c16
        try clear c20
        try clear c24
        try clear c30
        try clear hcz11_0
        try clear hcz11_1
        try clear hcz11_2
        try clear hcz11_3
        try clear hcz17_0
        try clear hcz17_1
        try clear hcz17_2
        try clear hcz17_3
        try clear hcz25_0
        try clear hcz25_1
        try clear hcz25_2
        try clear hcz25_3
        try clear hcz26_0
        try clear hcz26_1
        try clear hcz26_2
        try clear hcz26_3
        try clear hcz5_0
        try clear hcz5_1
        try clear hcz5_2
        try clear hcz5_3
        try clear hcz9_0
        try clear hcz9_1
        try clear hcz9_2
        try clear hcz9_3
        try clear hfz11_0
        try clear hfz11_1
        try clear hfz11_2
        try clear hfz11_3
        try clear hfz17_0
        try clear hfz17_1
        try clear hfz17_2
        try clear hfz17_3
        try clear hfz25_0
        try clear hfz25_1
        try clear hfz25_2
        try clear hfz25_3
        try clear hfz26_0
        try clear hfz26_1
        try clear hfz26_2
        try clear hfz26_3
        try clear hfz5_0
        try clear hfz5_1
        try clear hfz5_2
        try clear hfz5_3
        try clear hfz9_0
        try clear hfz9_1
        try clear hfz9_2
        try clear hfz9_3
        try clear p2
        obtain ⟨x6_3, x7_3, rfl, HA, HK3, HO_4, HO_6, HO_197003, BK189, BK196, HB⟩ := hrel; cases gk with
        | zero => exact absurd HA.out (by simp [zau.l1])
        | succ k3 =>
         have H := HA.out; clear HA; simp only [zau.l1] at H; by_cases c31 : x7_3 < (x6_3.length : Int)
         ·rw [if_pos c31] at H
          have c31b0 : decide (x7_3 < (x6_3.length : Int)) = true := decide_eq_true c31; clear c31; by_cases c32 : 0 ≤ x7_3
          ·rw [if_pos c32] at H
           have c32b0 : decide (0 ≤ x7_3) = true := decide_eq_true c32; clear c32; obtain ⟨y205, hy205⟩ : ∃ y_ : List (S44), y_ = (x6_3.set (x7_3 : Int).toNat (⟨(⟨0, 0⟩ : S42), 99, 0⟩ : S44)) := ⟨_, rfl⟩; replace H : (zau.l1 k3 x4_1 x5_1 y205 (wrap64 (x7_3 + 1)) a0_0 a0_1 a0_2 l0_3 t190 t191 t192 t193) = some r := by first | (rw [hy205]; with_reducible exact H) | (have H2_ := (Option.bind_some _ _).symm.trans H; rw [hy205]; with_reducible exact H2_) | (have H2_ := (Option.bind_some _ _).symm.trans H; with_reducible exact H2_) | with_reducible exact H | (rw [hy205]; exact H) | exact H
           have Ny205 := zaa.mk hy205; clear hy205; have H' := zaa.mk H; clear H; obtain ⟨Ao34, co34, eo34⟩ := Kd.zbB HO_6.out; subst eo34; have p33 : 0 ≤ (x7_3 : Int) := of_decide_eq_true (by assumption)
           have q33 : (x7_3 : Int) < ((x6_3.length : Int) : Int) := of_decide_eq_true (by assumption)
           obtain ⟨go33, co33, eo33, gb33, gl33, cl33, HG33⟩ := Kd.R_form HO_6.out (by omega)
           (first | cases eo33 | (injection eo33 with ea_ en_ ec_; (first | subst ea_ | (injection ea_ with ea_; subst ea_)); subst ec_; clear en_))
           have GB33 := zaa.mk gb33; have GG33 := zaa.mk HG33; clear gb33 gl33 HG33; obtain ⟨ce33, hcl33, hM33, hcc33, hfr33⟩ := Kd.R_elem HO_6.out z44 (x7_3 : Int) p33 q33; obtain rfl := k44_openM hM33; have hx33_0 : wr.cell? ⟨go33, (x7_3 : Int).toNat * 4, none⟩ = some (.int .i64 ((zbD x6_3 x7_3).f0.f0)) := hcc33 0 _ rfl; have hx33_1 : wr.cell? ⟨go33, (x7_3 : Int).toNat * 4 + 1, none⟩ = some (.int .i64 ((zbD x6_3 x7_3).f0.f1)) := hcc33 1 _ rfl; have hx33_2 : wr.cell? ⟨go33, (x7_3 : Int).toNat * 4 + 2, none⟩ = some (.int .u8 ((zbD x6_3 x7_3).f1)) := hcc33 2 _ rfl; have hx33_3 : wr.cell? ⟨go33, (x7_3 : Int).toNat * 4 + 3, none⟩ = some (.int .u8 ((zbD x6_3 x7_3).f2)) := hcc33 3 _ rfl; have hf33_0 : wr.frozen? ⟨go33, (x7_3 : Int).toNat * 4, none⟩ = false := hfr33 0; have hf33_1 : wr.frozen? ⟨go33, (x7_3 : Int).toNat * 4 + 1, none⟩ = false := hfr33 1; have hf33_2 : wr.frozen? ⟨go33, (x7_3 : Int).toNat * 4 + 2, none⟩ = false := hfr33 2; have hf33_3 : wr.frozen? ⟨go33, (x7_3 : Int).toNat * 4 + 3, none⟩ = false := hfr33 3; clear hcl33 hcc33 hfr33 hM33; replace p33 := eq_true p33; replace q33 := eq_true q33; have HX35 := zaa.mk (show Kd.R k44 44 wr w.heap.size (fun k_ => some k_ ≠ (v198 : Value).ownBlock) (.slice (some ⟨go33, 0, none⟩) x6_3.length co34) x6_3 from (by (with_reducible repeat (first | apply Kd.za3 | apply Kd.za2 | apply Kd.za8)); exact HO_6.out))
           obtain ⟨ce35, hcl35, hM35, hcc35, hfr35⟩ := Kd.R_elem HX35.out z44 (x7_3 : Int) (of_decide_eq_true (by assumption)) (by have h_ : (x7_3 : Int) < ((x6_3.length : Int) : Int) := of_decide_eq_true (by assumption); first | exact h_ | (have e_ := (Kd.zbt HO_6.out).1; omega) | simpa using h_)
           obtain rfl := k44_openM hM35; have HP35 := Kd.R_seg HX35.out (x7_3 : Int) (of_decide_eq_true (by assumption)) (by have h_ : (x7_3 : Int) < ((x6_3.length : Int) : Int) := of_decide_eq_true (by assumption); first | exact h_ | (have e_ := (Kd.zbt HO_6.out).1; omega) | simpa using h_) (seg := [.int .i64 0, .int .i64 0, .int .u8 99, .int .u8 0]) (j := 0) hcl35 hcc35 (show 4 ≤ 4 from by decide) (x' := (⟨(⟨0, 0⟩ : S42), 99, 0⟩ : S44)) (k44_mkM _ _ _ (⟨(⟨0, 0⟩ : S42), 99, 0⟩ : S44) ) (fun _ hk => hk)
           have hx35_0 := hcc35 0 _ rfl
           (try simp only [show (k44).sz = 4 from rfl, Nat.mul_one, Nat.add_zero] at hx35_0)
           have hf35_0 := hfr35 0
           (try simp only [show (k44).sz = 4 from rfl, Nat.mul_one, Nat.add_zero] at hf35_0)
           have hx35_1 := hcc35 1 _ rfl
           (try simp only [show (k44).sz = 4 from rfl, Nat.mul_one, Nat.add_zero] at hx35_1)
           have hf35_1 := hfr35 1
           (try simp only [show (k44).sz = 4 from rfl, Nat.mul_one, Nat.add_zero] at hf35_1)
           have hx35_2 := hcc35 2 _ rfl
           (try simp only [show (k44).sz = 4 from rfl, Nat.mul_one, Nat.add_zero] at hx35_2)
           have hf35_2 := hfr35 2
           (try simp only [show (k44).sz = 4 from rfl, Nat.mul_one, Nat.add_zero] at hf35_2)
           have hx35_3 := hcc35 3 _ rfl
           (try simp only [show (k44).sz = 4 from rfl, Nat.mul_one, Nat.add_zero] at hx35_3)
           have hf35_3 := hfr35 3
           (try simp only [show (k44).sz = 4 from rfl, Nat.mul_one, Nat.add_zero] at hf35_3)
           clear hcl35 hcc35 hfr35 hM35; go_wp2_with (first | ((with_reducible refine gate_store (t := 44) (p := 37) rfl ?_); refine store_event (t := 44) (p := 37) (v := ?vo_w36) (w1 := ((((wr.setCell ⟨go33, (x7_3 : Int).toNat * 4, none⟩ (.int .i64 0)).setCell ⟨go33, (x7_3 : Int).toNat * 4 + 1, none⟩ (.int .i64 0)).setCell ⟨go33, (x7_3 : Int).toNat * 4 + 2, none⟩ (.int .u8 99)).setCell ⟨go33, (x7_3 : Int).toNat * 4 + 3, none⟩ (.int .u8 0))) ?hg ?ho ?hn ?hr ?_; (case ho => rfl); (case hg => rfl); (case hn => rfl); (case hr => first | (go_simp; done) | (go_simp; rfl)); intro w36 hw; have hg : wr.grownBy w36 (some go33) := (by rw [hw]; exact HP35.2); have hp_ : Kd.R k44 44 w36 w.heap.size (fun k_ => some k_ ≠ (v198 : Value).ownBlock) (.slice (some ⟨go33, 0, none⟩) x6_3.length co34) y205 := (by rw [hw, Ny205.out]; exact HP35.1); clear HP35; have n0_ := zaa.mk (Kd.R_after (v := (.slice (some ⟨go33, 0, none⟩) x6_3.length co34)) (v1 := (.slice (some ⟨go33, 0, none⟩) x6_3.length co34)) (ok := (fun _ => True)) (by (with_reducible repeat (first | apply Kd.za3 | apply Kd.za2 | apply Kd.za8)); exact Kd.zbV HO_4.out (fun _ hk => ⟨trivial, hk⟩)) hg (.inl rfl)); have n1_ := zaa.mk (hp_); have n2_ := zaa.mk (Kd.R_over' (v := (.slice (some ⟨go33, 0, none⟩) x6_3.length co34)) (by (with_reducible repeat (first | apply Kd.za3 | apply Kd.za2 | apply Kd.za8)); exact HO_197003.out) (Kd.R_typed HO_6.out) (by decide) hg); have n3_ := zaa.mk (zcb (g := gb189) (o := .cells #[.int .u8 a0_0, .int .u8 a0_1, .int .i64 a0_2, .slice A0_3 l0_3.length c0_3] 25 (0, 0)) (by (with_reducible repeat (first | refine zar ?_ _ | refine zav ?_ | refine zas ?_ _)); exact BK189.out) hg (Kd.R_ne HO_6.out BK189.out (by decide))); have n4_ := zaa.mk (zcb (g := gb196) (o := .cells #[.int .u8 t190, .int .u8 t191, .int .i64 t192, .slice Ao10 t193.length co10] 25 (0, 0)) (by (with_reducible repeat (first | refine zar ?_ _ | refine zav ?_ | refine zas ?_ _)); exact BK196.out) hg (Kd.R_ne HO_6.out BK196.out (by decide))); have n5_ := zaa.mk ((by rw [hw]; exact zaq (zaq (zaq (zaq (HB.out) GB33.out) GB33.out) GB33.out) GB33.out : Below w.heap.size w w36)); clear HO_4; clear HO_6; clear HO_197003; clear BK189; clear BK196; clear HB; have HO_4 := n0_; have HO_6 := n1_; have HO_197003 := n2_; have BK189 := n3_; have BK196 := n4_; have HB := n5_; clear n0_ n1_ n2_ n3_ n4_ n5_; clear hg hw hp_))
           go_roundg k3
           case measure => have := HK1.out; have := HJ14.out; have := HK3.out; omega
           case rel => exact ⟨(y205), (wrap64 (x7_3 + 1)), (by first | rfl | (simp; done) | (simp [*]; done)), H', ⟨by have := HK1.out; have := HJ14.out; have := HK3.out; omega⟩, ⟨by (with_reducible repeat (first | apply Kd.za3 | apply Kd.za2 | apply Kd.za8)); exact Kd.zbV HO_4.out (fun _ hk => hk.2)⟩, ⟨by (with_reducible repeat (first | apply Kd.za3 | apply Kd.za2 | apply Kd.za8)); exact HO_6.out⟩, ⟨by (with_reducible repeat (first | apply Kd.za3 | apply Kd.za2 | apply Kd.za8)); exact HO_197003.out⟩, ⟨by (with_reducible repeat (first | refine zar ?_ _ | refine zav ?_ | refine zas ?_ _)); exact BK189.out⟩, ⟨by (with_reducible repeat (first | refine zar ?_ _ | refine zav ?_ | refine zas ?_ _)); exact BK196.out⟩, ⟨by repeat (first | (with_reducible first | exact HB.out | apply zad | apply zac | apply zae | refine zaq ?_ GE189.out | refine zaq ?_ GE196.out) | exact HB.out)⟩⟩
          ·rw [if_neg c32] at H
           exact absurd H (by simp)
         ·rw [if_neg c31] at H
          have c31b0 : decide (x7_3 < (x6_3.length : Int)) = false := decide_eq_false c31; clear c31; have H' := zaa.mk H; clear H; obtain ⟨Ao37, co37, eo37⟩ := Kd.zbB HO_6.out; subst eo37; go_wp2
          go_roundg k3
          case measure => have := HK1.out; have := HJ14.out; have := HK3.out; omega
          case rel => exact ⟨(x4_1), (wrap64 (x5_1 + 1)), (by first | rfl | (simp; done) | (simp [*]; done)), H', ⟨by have := HK1.out; have := HJ14.out; have := HK3.out; omega⟩, ⟨by (with_reducible repeat (first | apply Kd.za3 | apply Kd.za2 | apply Kd.za8)); exact Kd.zbV HO_4.out (fun _ hk => trivial)⟩, ⟨by (with_reducible repeat (first | apply Kd.za3 | apply Kd.za2 | apply Kd.za8)); exact HO_197003.out⟩, ⟨by (with_reducible repeat (first | refine zar ?_ _ | refine zav ?_ | refine zas ?_ _)); exact BK189.out⟩, ⟨by (with_reducible repeat (first | refine zar ?_ _ | refine zav ?_ | refine zas ?_ _)); exact BK196.out⟩, ⟨by repeat (first | (with_reducible first | exact HB.out | apply zad | apply zac | apply zae | refine zaq ?_ GE189.out | refine zaq ?_ GE196.out) | exact HB.out)⟩⟩
   ·rw [if_neg c13] at H
    have c13b0 : decide (x5_1 < 2) = false := decide_eq_false c13; clear c13; obtain rfl := Option.some.inj H; go_wp2
    go_ret
    exact ⟨by first | rfl | (simp [*, zaF, zaE] <;> rfl), by repeat (first | (with_reducible first | exact HB.out | apply zad | apply zac | apply zae | refine zaq ?_ GE189.out | refine zaq ?_ GE196.out) | exact HB.out)⟩
end
mutual
def wantT : S25 → Prop
 | ⟨k, w, wd, kids⟩ => (k ≠ 50 → w = 0) ∧ wantL kids
def wantL : List S25 → Prop
 | [] => True
 | t :: r => wantT t ∧ wantL r
end
mutual
theorem may_want : ∀ (t : S25) (at_ c : Int), (mayN t at_ c).2 = true → wantT t
 | ⟨k, w, wd, kids⟩, at_, c, h => by
  simp only [mayN] at h; by_cases t1 : wrap64 (c + 1) > 1048576
  ·rw [if_pos t1] at h; cases h
  rw [if_neg t1] at h; by_cases t2 : at_ > 65536
  ·rw [if_pos t2] at h; cases h
  rw [if_neg t2] at h; by_cases t3 : k ≤ 50
  ·rw [if_pos t3] at h
   obtain ⟨rfl, _, _, _, h4, _⟩ := leafB_facts h; simp only [wantT, wantL, and_true]; exact fun h => (h4 h).2
  rw [if_neg t3] at h; by_cases t4 : k > 68
  ·rw [if_pos t4] at h; cases h
  rw [if_neg t4] at h; by_cases t5 : w = 0
  case neg => rw [if_pos (show w ≠ 0 from t5)] at h; cases h
  rw [if_neg (show ¬ (w ≠ 0) from fun h => h t5)] at h
  by_cases t6 : k = 51 ∧ at_ > 1
  ·rw [if_pos t6] at h; cases h
  rw [if_neg t6] at h
  revert h
  cases hm : mayL kids at_ (wrap64 (c + 1)) 0 with
  | mk c' o =>
   cases o with
   | none => intro h; cases h
   | some s =>
    intro h
    simp only [wantT]; exact ⟨fun _ => t5, mayL_want kids at_ _ 0 c' s hm⟩
theorem mayL_want : ∀ (l : List S25) (at_ c sum c' s : Int), mayL l at_ c sum = (c', some s) → wantL l
 | [], at_, c, sum, c', s, h => by simp only [wantL]
 | t :: r, at_, c, sum, c', s, h => by
  simp only [mayL] at h; cases hm : mayN t (wrap64 (at_ + 1)) c with
  | mk c2 b =>
   rw [hm] at h; cases b with
   | false => simp at h
   | true =>
    simp only at h; simp only [wantL]; exact ⟨may_want t _ c (by rw [hm]), mayL_want r at_ c2 _ c' s h⟩
end
mutual
theorem preT_want : ∀ (t : S25) (f d : Int) (x : S25 × Int × Int), x ∈ preT t f d → wantT t → wantT x.1
 | ⟨k, w, wd, l⟩, f, d, x, h, hw => by
  simp only [preT, List.mem_cons] at h; rcases h with rfl | h
  ·exact hw
  ·exact preTL_want l f d x h (by simp only [wantT] at hw; exact hw.2)
theorem preTL_want : ∀ (l : List S25) (f d : Int) (x : S25 × Int × Int), x ∈ preTL l f d → wantL l → wantT x.1
 | [], f, d, x, h, _ => by simp [preTL] at h
 | t :: r, f, d, x, h, hw => by
  simp only [preTL, List.mem_append] at h; simp only [wantL] at hw; rcases h with h | h
  ·exact preT_want t _ _ x h hw.1
  ·exact preTL_want r _ _ x h hw.2
end
theorem allT_want {t : S25} {x : S25 × Int × Int} (h : x ∈ allT t) (hx : x.1.f0 ≠ 50) : x.1.f1 = 0 := by
 unfold allT at h
 cases ho : okB t with
 | false => rw [ho] at h; simp at h
 | true =>
  rw [ho, if_pos rfl] at h; have hw := preT_want t 0 0 x h (may_want t 1 0 ho); obtain ⟨⟨k, w, wd, l⟩, f, d⟩ := x; simp only [wantT] at hw; exact hw.1 hx
theorem all_ev (t : S25) (hb : byteT t) (ht : tsize t ≤ 2000000) : Ev (fun m => zbc.f m t.f0 t.f1 t.f2 t.f3) ((allT t).map seenS) := by
 have e : (⟨t.f0, t.f1, t.f2, t.f3⟩ : S25) = t := eta25 t; refine Ev.congr (fun m => by unfold zbc.f; rfl) (Ev.bind (a := okB t) (f := fun _ (r : Bool) => if r = true then (if tsize ⟨t.f0, t.f1, t.f2, t.f3⟩ ≤ 2000000 then some ((preT ⟨t.f0, t.f1, t.f2, t.f3⟩ 0 0).map seenS) else none) else some []) (by have := right_ref t.f0 t.f1 t.f2 t.f3 (by rw [e]; exact hb); rw [e] at this; exact this) (Ev.const ?_))
 rw [e, if_pos ht]; unfold allT
 cases okB t <;> simp
theorem rd_midSeen (p : List S58) (t : S58) (r : List S58) : zaJ (p ++ t :: r) (p.length : Int) = t := by
 simp [zaJ]
def faultD (x : S25 × Int × Int) : S44 := ⟨⟨x.2.1, wrap64 (x.2.1 + x.1.f2)⟩, x.1.f0, x.1.f1⟩
theorem rof_l0 (r : List (S25 × Int × Int)) : ∀ (q : List (S25 × Int × Int)) (out : List S44), q.length + r.length ≤ 2000000 → out.length + r.length ≤ 2000000 →
  Ev (fun m => zay.l0 m out ((q ++ r).map seenS) (q.length : Int)) (out ++ (r.filter fun x => zbE x.1.f0).map faultD) := by
 induction r with
 | nil => intro q out h1 h2; exact Ev.step (f := fun _ => some out) (fun m => by rw [zay.l0, if_neg (by simp)]) (by simpa using Ev.now out)
 | cons x r ih =>
  intro q out h1 h2
  simp only [List.length_cons] at h1 h2; have hr : zaJ ((q ++ x :: r).map seenS) (q.length : Int) = seenS x := by
   rw [List.map_append, List.map_cons]; have := rd_midSeen (q.map seenS) (seenS x) (r.map seenS)
   rwa [List.length_map] at this
  have hl : ((q ++ x :: r).map seenS).length = q.length + r.length + 1 := by simp; omega
  have hw : wrap64 ((q.length : Int) + 1) = ((q ++ [x]).length : Int) := by rw [wrap_id (by omega) (by omega)]; simp
  have e0 : (seenS x).f0.f0 = x.1.f0 := rfl; cases c : zbE x.1.f0 with
  | true =>
   have h3 := ih (q ++ [x]) (out ++ [faultD x]) (by simp; omega) (by simp; omega)
   have e : out ++ [faultD x] ++ (r.filter fun x => zbE x.1.f0).map faultD = out ++ ((x :: r).filter fun x => zbE x.1.f0).map faultD := by simp [List.filter_cons, c]
   rw [List.append_assoc q, List.singleton_append, e] at h3; refine Ev.step (fun m => ?_) h3
   rw [zay.l0, if_pos (by rw [hl]; omega), if_pos (by omega), hr, hw]
   unfold zbE at c
   simp only [Bool.or_eq_true, beq_iff_eq] at c; have hlt : out.length < 5864062014805 := by omega
   by_cases c50 : x.1.f0 = 50
   ·rw [if_pos (by rw [e0]; exact c50), if_pos hlt]; rfl
   rw [if_neg (by rw [e0]; exact c50)]
   by_cases c68 : x.1.f0 = 68
   ·rw [if_pos (by rw [e0]; exact c68), if_pos hlt]; rfl
   rw [if_neg (by rw [e0]; exact c68)]
   by_cases c5 : x.1.f0 = 5
   ·rw [if_pos (by rw [e0]; exact c5), if_pos hlt]; rfl
   rw [if_neg (by rw [e0]; exact c5)]
   by_cases c9 : x.1.f0 = 9
   ·rw [if_pos (by rw [e0]; exact c9), if_pos hlt]; rfl
   rw [if_neg (by rw [e0]; exact c9)]
   rw [if_pos (by rw [e0]; omega), if_pos hlt]; rfl
  | false =>
   have h3 := ih (q ++ [x]) out (by simp; omega) (by omega)
   have e : out ++ (r.filter fun x => zbE x.1.f0).map faultD = out ++ ((x :: r).filter fun x => zbE x.1.f0).map faultD := by simp [List.filter_cons, c]
   rw [List.append_assoc q, List.singleton_append, e] at h3; refine Ev.step (fun m => ?_) h3
   unfold zbE at c
   simp only [Bool.or_eq_false_iff, beq_eq_false_iff_ne] at c; rw [zay.l0, if_pos (by rw [hl]; omega), if_pos (by omega), hr, hw, if_neg (by rw [e0]; exact c.1.1.1.1), if_neg (by rw [e0]; exact c.1.1.1.2), if_neg (by rw [e0]; exact c.1.1.2), if_neg (by rw [e0]; exact c.1.2), if_neg (by rw [e0]; exact c.2)]
theorem faults_same (t : S25) : ((allT t).filter fun x => zbE x.1.f0).map faultD = faultsS (allT t) := by
 unfold faultsS
 refine List.map_congr_left fun x hx => ?_
 rw [List.mem_filter] at hx; unfold faultD faultS wantOf
 by_cases c : x.1.f0 = 50
 ·rw [if_pos c]
 ·rw [if_neg c, allT_want hx.1 c]
theorem rof_ev (t : S25) (hb : byteT t) (ht : tsize t ≤ 2000000) : Ev (fun m => zay.f m t.f0 t.f1 t.f2 t.f3) (faultsS (allT t)) := by
 have hl := allT_length t; have := rof_l0 (allT t) [] [] (by simp; omega) (by simp; omega)
 rw [List.nil_append, List.nil_append, faults_same] at this; exact Ev.congr (fun m => by unfold zay.f; rfl) (Ev.bind (all_ev t hb ht) this)
theorem of_prog (t : S25) (ht : tsize t ≤ 2000000) : faults_Of.f t.f0 t.f1 t.f2 t.f3 = some (faultsS (allT t)) := by
 unfold faults_Of.f
 rw [eta25, if_pos ht]
theorem fsame_l0 (r : List S44) : ∀ (q : List S44), q.length + r.length ≤ 2000000 → Ev (fun m => zaP.l0 m (q ++ r) (q ++ r) (q.length : Int)) true := by
 induction r with
 | nil => intro q h; exact Ev.step (f := fun _ => some true) (fun m => by rw [zaP.l0, if_neg (by simp)]) (Ev.now _)
 | cons x r ih =>
  intro q h
  simp only [List.length_cons] at h; have h3 := ih (q ++ [x]) (by simp; omega)
  rw [List.append_assoc, List.singleton_append] at h3; have hl : (q ++ x :: r).length = q.length + r.length + 1 := by simp; omega
  have hw : wrap64 ((q.length : Int) + 1) = ((q ++ [x]).length : Int) := by rw [wrap_id (by omega) (by omega)]; simp
  refine Ev.step (fun m => ?_) h3
  rw [zaP.l0, if_pos (by rw [hl]; omega), if_pos (by omega), if_pos (by rw [hl]; omega), if_neg (by simp), hw]
theorem fsame_refl (l : List S44) (h : l.length ≤ 2000000) : Ev (fun m => zaP.f m l l) true := by
 have := fsame_l0 l [] (by simpa using h)
 exact Ev.congr (fun m => by unfold zaP.f; rw [if_pos rfl]) (by simpa using this)
theorem faultsS_length (t : S25) : (faultsS (allT t)).length ≤ tsize t := by
 unfold faultsS
 rw [List.length_map]; exact Nat.le_trans (List.length_filter_le _ _) (allT_length t)
section
variable (t : S25) (F : List S44)
theorem tells_l1 (x5 : Int) (d : Nat) : ∀ (x6 : List S44) (x7 : Nat), x6.length ≤ 2000000 → x7 ≤ x6.length → x6.length - x7 = d → Ev (fun m => zau.l0 m F (wrap64 (x5 + 1)) t.f0 t.f1 t.f2 t.f3 t.f0 t.f1 t.f2 t.f3) true →
  Ev (fun m => zau.l1 m F x5 x6 (x7 : Int) t.f0 t.f1 t.f2 t.f3 t.f0 t.f1 t.f2 t.f3) true := by
 induction d with
 | zero => intro x6 x7 h1 h2 h3 h; exact Ev.step (fun m => by rw [zau.l1, if_neg (by omega)]) h
 | succ d ih =>
  intro x6 x7 h1 h2 h3 h
  refine Ev.step (fun m => by rw [zau.l1, if_pos (by omega), if_pos (by omega), wrap_id (x := (x7 : Int) + 1) (by omega) (by omega)]) ?_
  have := ih (x6.set x7 ⟨⟨0, 0⟩, 99, 0⟩) (x7 + 1) (by simpa using h1) (by simp; omega) (by simp; omega) h
  rw [show ((x7 + 1 : Nat) : Int) = (x7 : Int) + 1 by omega] at this
  simpa using this
theorem tells_round (x5 : Int) (h5 : x5 < 2) (ht : tsize t ≤ 2000000) (hF : F = faultsS (allT t)) (h : Ev (fun m => zau.l0 m F (wrap64 (x5 + 1)) t.f0 t.f1 t.f2 t.f3 t.f0 t.f1 t.f2 t.f3) true) :
  Ev (fun m => zau.l0 m F x5 t.f0 t.f1 t.f2 t.f3 t.f0 t.f1 t.f2 t.f3) true := by
 have hl : F.length ≤ 2000000 := by rw [hF]; exact Nat.le_trans (faultsS_length t) ht
 refine Ev.step (fun m => by rw [zau.l0, if_pos h5, of_prog t ht, ← hF, Option.bind_some]) ?_
 refine Ev.bind (fsame_refl F hl) (Ev.congr (fun m => if_pos rfl) (Ev.bind (same_refl t ht) ?_))
 refine Ev.step (fun m => by rw [zau.j1, if_neg (by decide)]) ?_
 exact tells_l1 t F x5 F.length F 0 hl (Nat.zero_le _) (by omega) h
end
theorem tells_ev (t : S25) (hb : byteT t) (ht : tsize t ≤ 2000000) : Ev (fun m => zau.f m t.f0 t.f1 t.f2 t.f3) true := by
 refine Ev.congr (fun m => by unfold zau.f; rfl) (Ev.bind (twin_ev t ht) (Ev.bind (rof_ev t hb ht) ?_))
 refine tells_round t _ 0 (by decide) ht rfl (tells_round t _ _ (by unfold wrap64; omega) ht rfl ?_)
 exact Ev.step (f := fun _ => some true) (fun m => by rw [zau.l0, if_neg (by unfold wrap64; omega)]) (Ev.now _)
theorem rd_bounds {l : List S50} (h : ∀ t ∈ l, 0 ≤ t.f0 ∧ t.f0 ≤ 255) (i : Nat) (hi : i < l.length) : 0 ≤ (zbP l i).f0 ∧ (zbP l i).f0 ≤ 255 := by
 have e : zbP l (i : Int) = l[i] := by
  unfold zbP
  rw [Int.toNat_natCast, List.getD_eq_getElem?_getD, List.getElem?_eq_getElem hi]
  rfl
 rw [e]; exact h _ (List.getElem_mem hi)
theorem nv_tree {b : Nat} {ok : Nat → Prop} {W : World} {k w wd : Int} {v : Value} {l : List S25} {N : Nat} (h : NV b ok W k w wd v l N) : byteT ⟨k, w, wd, l⟩ ∧ tsize ⟨k, w, wd, l⟩ ≤ N := by
 refine ⟨by simp only [byteT]; exact ⟨h.kb, h.wb, h.lb⟩, ?_⟩
 have := h.size; simp only [tsize]; omega
set_option maxHeartbeats 8000000 in
set_option maxRecDepth 100000 in
theorem glossatorlaw19_FaultsTexts.calls (s : ByteArray) (r : Bool) (W : World) (h : s.size ≤ 140737488351232 ∧ true = r) :
  Calls Try.prog 4 #[.string s] W fun e w' => e = .returned (.bool r) ∧ Below W.heap.size W w' := by
 obtain ⟨hs, rfl⟩ := h; have hu := Try.underlying25; by_cases hl : 3000 < s.size
 ·have hl' : (3000 : Int) < (s.size : Int) := by omega
  go_enter Try.func4, Try.ntmps4
  go_wp2
  go_ret
  exact ⟨rfl, Below.refl _ _⟩
 ·have hl' : ¬ (3000 : Int) < (s.size : Int) := by omega
  obtain ⟨K, lt, hK, hlen, hkinds⟩ := lex_all s (by omega)
  have HLX := zaa.mk hK; have HLN := zaa.mk hlen; have HKI := zaa.mk (rd_bounds hkinds); clear hK hlen hkinds; go_enter Try.func4, Try.ntmps4
  go_upto_region 4 with (first | (go_at_call 8; refine (zaW.calls K s lt W HLX.out).mono ?_; rintro e w1 ⟨v1, rfl, hR, hB1⟩; obtain ⟨A1, c1, rfl, hc1, hC1⟩ := Kd.R_reads hR; have HB1 := zaa.mk hB1; have HC1 := zaa.mk hC1; have HK1 := zaa.mk hc1; clear hR hB1 hC1 hc1) | (go_at_call 7; refine (file_calls A1 c1 lt w1 HC1.out HK1.out HLN.out HKI.out).mono ?_; rintro e w2 ⟨v, er, rfl, k, w, wd, u, l, rfl, hN, hB⟩; obtain ⟨A2, c2, rfl, hc2, hC2⟩ := Kd.zaU hN.row; have HT := zaa.mk (nv_tree hN); have HB := zaa.mk (HB1.out.trans (hB.mono HB1.out.size)); have HC2 := zaa.mk hC2; have HK2 := zaa.mk hc2; clear hN hB hC2 hc2))
  have hb3 : Below w2.heap.size w2 (w2.alloc (nodeO k w wd (.slice A2 l.length c2))) := zad (Below.refl _ _) _; have HB3 := zaa.mk (HB.out.trans (hb3.mono HB.out.size)); have HC3 := zaa.mk (Kd.zbH HC2.out hb3); obtain ⟨x0, x1, x2, x3⟩ := (zaL (heap_alloc_new w2 (nodeO k w wd (.slice A2 l.length c2)))).1; obtain ⟨Y, hY⟩ : ∃ Y, Y = w2.alloc (nodeO k w wd (.slice A2 l.length c2)) := ⟨_, rfl⟩; rw [← hY] at HB3 HC3 x0 x1 x2 x3; change Code.wp Try.prog _ _ _ (w2.alloc (nodeO k w wd (.slice A2 l.length c2)))
  rw [← hY]; clear hY hb3; obtain ⟨K2, hK2⟩ := tells_ev ⟨k, w, wd, l⟩ HT.out.1 (by have := HT.out.2; omega)
  have HTE := zaa.mk (hK2 K2 (Nat.le_refl _)); clear hK2; go_wp2_with (go_at_call 6; refine (zau.calls K2 k w wd A2 c2 l true Y HC3.out HK2.out HTE.out).mono ?_; rintro e w4 ⟨rfl, hB4⟩; have HB4 := zaa.mk (HB3.out.trans (hB4.mono HB3.out.size)); clear hB4)
  go_ret
  exact ⟨rfl, HB4.out⟩
theorem Pure.FaultsTexts (s : ByteArray) (w : s.size ≤ 140737488351232) : s.size ≤ 140737488351232 ∧ true = true := ⟨w, rfl⟩
end Go.Proofs.Ytceddikbmbadlaa.H
