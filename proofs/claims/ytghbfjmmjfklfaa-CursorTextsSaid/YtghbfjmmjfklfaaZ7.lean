/- Texts of this claim, merged. -/
import Derived.Test.YtghbfjmmjfklfaaZ6
import Derived.Deep.Slices
import Derived.StillTailTactics
import Derived.SizedLaws
import Derived.ProofKit
import Derived.Lib.SmallJoins
import Derived.Deep.Strs
import Derived.Maps.OwnSet
import Derived.Maps.Views
import Derived.Maps.OwnOps
import Derived.Shelf.RegionOpen
import Derived.TacticsInMore
import Derived.LoopNIn
import Derived.LoopIn
import Derived.Sort.LoopGhostIn
set_option linter.unusedVariables false
set_option linter.unusedSimpArgs false
set_option linter.unusedVariables false
set_option linter.unusedSimpArgs false
namespace Go.Proofs.Ytghbfjmmjfklfaa.H
open Go.RowKit Go.Proofs.YtghbfjmmjfklfaaW.PrintWords Go.Proofs.YtghbfjmmjfklfaaW.PrintLast Go.Proofs.YtghbfjmmjfklfaaW.PrintMore
inductive AT where
 | node (k w wd : Int) (A : Option Addr) (c : Nat) (kids : List AT)
namespace AT
def k : AT → Int
 | node k _ _ _ _ _ => k
def w : AT → Int
 | node _ w _ _ _ _ => w
def wd : AT → Int
 | node _ _ wd _ _ _ => wd
def A : AT → Option Addr
 | node _ _ _ A _ _ => A
def c : AT → Nat
 | node _ _ _ _ c _ => c
def kids : AT → List AT
 | node _ _ _ _ _ kids => kids
def val (T : AT) : Value := .agg #[.int .u8 T.k, .int .u8 T.w, .int .i64 T.wd, .slice T.A T.kids.length T.c]
end AT
mutual
def AT.erase : AT → S27
 | .node k w wd _ _ kids => ⟨k, w, wd, zbN kids⟩
def zbN : List AT → List S27
 | [] => []
 | T :: r => T.erase :: zbN r
end
theorem zbl : ∀ l : List AT, (zbN l).length = l.length
 | [] => rfl
 | _ :: r => by simp [zbN, zbl r]
def w0 (W : World) (ad : Addr) (i : Nat) (T : AT) : Prop := W.cell? (ad.add (i * 4)) = some (.int .u8 T.k) ∧ W.cell? ⟨(ad.add (i * 4)).block, (ad.add (i * 4)).off + 1, none⟩ = some (.int .u8 T.w) ∧ W.cell? ⟨(ad.add (i * 4)).block, (ad.add (i * 4)).off + 2, none⟩ = some (.int .i64 T.wd) ∧ W.cell? ⟨(ad.add (i * 4)).block, (ad.add (i * 4)).off + 3, none⟩ = some (.slice T.A T.kids.length T.c)
theorem w0.below {W W1 : World} {ad : Addr} {i : Nat} {T : AT} (h : w0 W ad i T) (hb : Below W.heap.size W W1) : w0 W1 ad i T := by
 obtain ⟨h0, h1, h2, h3⟩ := h
 exact ⟨(hb.cell (World.block_lt_of_cell? W _ h0)).trans h0, (hb.cell (World.block_lt_of_cell? W _ h1)).trans h1, (hb.cell (World.block_lt_of_cell? W _ h2)).trans h2, (hb.cell (World.block_lt_of_cell? W _ h3)).trans h3⟩
mutual
def AtT (W : World) : AT → Prop
 | .node _ _ _ A c kids => kids.length ≤ c ∧ kids.length ≤ 9223372036854775807 ∧ (kids = [] ∨ ∃ ad, A = some ad ∧ AtL W ad 0 kids)
def AtL (W : World) (ad : Addr) : Nat → List AT → Prop
 | _, [] => True
 | i, T :: r => (w0 W ad i T ∧ AtT W T) ∧ AtL W ad (i + 1) r
end
mutual
theorem AtT.below {W W1 : World} (hb : Below W.heap.size W W1) : ∀ (T : AT), AtT W T → AtT W1 T
 | .node _ _ _ A c kids, h => by
  simp only [AtT] at h ⊢
  refine ⟨h.1, h.2.1, ?_⟩
  rcases h.2.2 with h | ⟨ad, h1, h2⟩
  ·exact .inl h
  ·exact .inr ⟨ad, h1, AtL.below hb ad 0 kids h2⟩
theorem AtL.below {W W1 : World} (hb : Below W.heap.size W W1) (ad : Addr) : ∀ (i : Nat) (l : List AT), AtL W ad i l → AtL W1 ad i l
 | _, [], _ => by simp only [AtL]
 | i, T :: r, h => by
  simp only [AtL] at h ⊢
  exact ⟨⟨h.1.1.below hb, AtT.below hb T h.1.2⟩, AtL.below hb ad (i + 1) r h.2⟩
end
theorem AtL.get {W : World} {ad : Addr} : ∀ (l : List AT) (i j : Nat) (h : AtL W ad i l) (hj : j < l.length), w0 W ad (i + j) l[j] ∧ AtT W l[j]
 | [], i, j, _, hj => absurd hj (Nat.not_lt_zero _)
 | T :: r, i, 0, h, _ => by simp only [AtL] at h; exact h.1
 | T :: r, i, j + 1, h, hj => by
  simp only [AtL] at h
  have := AtL.get r (i + 1) j h.2 (by simpa using hj)
  rw [show i + (j + 1) = i + 1 + j by omega]
  exact this
theorem AtT.kid {W : World} {k w wd : Int} {A : Option Addr} {c : Nat} {kids : List AT} (h : AtT W (.node k w wd A c kids)) (j : Nat) (hj : j < kids.length) : ∃ ad, A = some ad ∧ w0 W ad j kids[j] ∧ AtT W kids[j] := by
 simp only [AtT] at h
 rcases h.2.2 with rfl | ⟨ad, h1, h2⟩
 ·exact absurd hj (Nat.not_lt_zero _)
 ·have := AtL.get kids 0 j h2 hj
  rw [Nat.zero_add] at this
  exact ⟨ad, h1, this⟩
theorem AtL.of {W : World} {ad : Addr} : ∀ (l : List AT) (i : Nat), (∀ (j : Nat) (hj : j < l.length), w0 W ad (i + j) l[j] ∧ AtT W l[j]) → AtL W ad i l
 | [], i, _ => by simp only [AtL]
 | T :: r, i, h => by
  simp only [AtL]
  refine ⟨by have := h 0 (by simp); simpa using this, AtL.of r (i + 1) fun j hj => ?_⟩
  have := h (j + 1) (by simpa using hj)
  rw [show i + (j + 1) = i + 1 + j by omega] at this
  exact this
theorem eraseL_get : ∀ (l : List AT) (j : Nat) (h : j < l.length), zbm (zbN l) (j : Int) = l[j].erase
 | [], j, h => absurd h (Nat.not_lt_zero _)
 | T :: r, 0, _ => by simp [zbN, zbm]
 | T :: r, j + 1, h => by
  have := eraseL_get r j (by simpa using h)
  simp only [zbN, List.getElem_cons_succ]
  rw [← this]
  simp [zbm]
theorem erase_f (T : AT) : T.erase = ⟨T.k, T.w, T.wd, zbN T.kids⟩ := by cases T; simp [AT.erase, AT.k, AT.w, AT.wd, AT.kids]
theorem exists_AT (W : World) (n : Nat) : ∀ (t : S27), SizeOf.sizeOf t < n → ∀ (A : Option Addr) (c : Nat), t.f3.length ≤ c → Kd.C k27 W A t.f3.length t.f3 → ∃ kids : List AT, zbN kids = t.f3 ∧ AtT W (.node t.f0 t.f1 t.f2 A c kids) := by
 induction n with
 | zero => intro t h; exact absurd h (Nat.not_lt_zero _)
 | succ n ih =>
  rintro ⟨k, w, wd, l⟩ ht A c hc hC
  simp only at hc hC ⊢
  have hel : ∀ i, i < l.length → ∃ T : AT, T.erase = zbm l (i : Int) ∧ ∃ ad, A = some ad ∧ w0 W ad i T ∧ AtT W T := by
   intro i hi
   obtain ⟨ad, A3, c3, e, g0, g1, g2, g3, gl, gC⟩ := at_T27 hC (i : Int) (by omega) (by omega)
   rw [Int.toNat_natCast] at g0 g1 g2 g3
   have hm : zbm l (i : Int) ∈ l := by rw [rd_at27 l i hi]; exact List.getElem_mem hi
   have hsz := List.sizeOf_lt_of_mem hm
   simp only [S27.mk.sizeOf_spec] at ht
   obtain ⟨kids, he, hA⟩ := ih (zbm l (i : Int)) (by omega) A3 c3 gl gC
   refine ⟨.node _ _ _ A3 c3 kids, ?_, ad, e, ⟨g0, g1, g2, ?_⟩, hA⟩
   ·rw [AT.erase, he, eta27]
   ·rw [show (AT.node (zbm l (i : Int)).f0 (zbm l (i : Int)).f1 (zbm l (i : Int)).f2 A3 c3 kids).kids.length = (zbm l (i : Int)).f3.length by rw [← he, zbl]; rfl]
    exact g3
  haveI : Inhabited AT := ⟨.node 0 0 0 none 0 []⟩
  obtain ⟨f, hf⟩ := Deep.choose_lt hel
  have hlen : ((List.range l.length).map f).length = l.length := by simp
  refine ⟨(List.range l.length).map f, ?_, ?_⟩
  ·refine List.ext_getElem (by rw [zbl, hlen]) fun j h1 h2 => ?_
   have := (hf j h2).1
   rw [rd_at27 l j h2] at this
   rw [← rd_at27 _ j h1, eraseL_get _ j (by rw [hlen]; exact h2), ← this]
   simp
  ·simp only [AtT]
   refine ⟨by rw [hlen]; exact hc, by rw [hlen]; exact hC.2.1, ?_⟩
   rcases Nat.eq_zero_or_pos l.length with h0 | h0
   ·exact .inl (by rw [h0]; rfl)
   ·obtain ⟨_, ad, he, _⟩ := hf 0 h0
    refine .inr ⟨ad, he, AtL.of _ 0 fun j hj => ?_⟩
    rw [hlen] at hj
    obtain ⟨_, ad', he', h1, h2⟩ := hf j hj
    rw [he] at he'
    cases he'
    simpa using ⟨h1, h2⟩
theorem C_of_AT (n : Nat) : ∀ (T : AT), SizeOf.sizeOf T < n → ∀ (W : World), AtT W T → Kd.C k27 W T.A T.kids.length (zbN T.kids) := by
 induction n with
 | zero => intro T h; exact absurd h (Nat.not_lt_zero _)
 | succ n ih =>
  rintro ⟨k, w, wd, A, c, kids⟩ ht W h
  simp only [AT.A, AT.kids]
  have hm : kids.length ≤ 9223372036854775807 := by simp only [AtT] at h; exact h.2.1
  refine ⟨zbl kids, hm, fun hpos => ?_⟩
  obtain ⟨ad, e, _, _⟩ := AtT.kid h 0 hpos
  refine ⟨ad, e, fun j p hj => ?_⟩
  obtain ⟨hlt, rfl⟩ := List.getElem?_eq_some_iff.1 hj
  have hlt2 : j < kids.length := by rw [← zbl]; exact hlt
  obtain ⟨ad', e', ⟨h0, h1, h2, h3⟩, hT⟩ := AtT.kid h j hlt2
  rw [e] at e'
  cases e'
  have hs : SizeOf.sizeOf kids[j] < n := by
   have := List.sizeOf_lt_of_mem (List.getElem_mem hlt2)
   simp only [AT.node.sizeOf_spec] at ht
   omega
  have hC := ih kids[j] hs W hT
  have hle : kids[j].kids.length ≤ kids[j].c := by
   cases hk : kids[j] with
   | node k w wd A c l =>
    rw [hk] at hT
    simp only [AtT] at hT
    exact hT.1
  have ep : (zbN kids)[j] = kids[j].erase := by rw [← rd_at27 _ j hlt, eraseL_get _ j hlt2]
  rw [ep, erase_f]
  refine ⟨[.int .u8 kids[j].k, .int .u8 kids[j].w, .int .i64 kids[j].wd, .slice kids[j].A kids[j].kids.length kids[j].c], rfl, ?_, fun i u hu => ?_⟩
  ·have := k27_mk W ⟨kids[j].k, kids[j].w, kids[j].wd, zbN kids[j].kids⟩ (A3 := kids[j].A) (c3 := kids[j].c) (by simp only; rw [zbl]; exact hle) (by simp only; rw [zbl]; exact hC)
   simp only [zbl] at this
   exact this
  ·match i, hu with
   | 0, hu => simp only [List.getElem?_cons_zero, Option.some.injEq] at hu; subst hu; exact h0
   | 1, hu => simp only [List.getElem?_cons_succ, List.getElem?_cons_zero, Option.some.injEq] at hu; subst hu; rw [show k27.sz = 4 from rfl, zbp _ _ 1 (by omega)]; exact h1
   | 2, hu => simp only [List.getElem?_cons_succ, List.getElem?_cons_zero, Option.some.injEq] at hu; subst hu; rw [show k27.sz = 4 from rfl, zbp _ _ 2 (by omega)]; exact h2
   | 3, hu => simp only [List.getElem?_cons_succ, List.getElem?_cons_zero, Option.some.injEq] at hu; subst hu; rw [show k27.sz = 4 from rfl, zbp _ _ 3 (by omega)]; exact h3
end Go.Proofs.Ytghbfjmmjfklfaa.H
namespace Go.Proofs.Ytghbfjmmjfklfaa.H
open Go.RowKit Go.Proofs.YtghbfjmmjfklfaaW.PrintWords Go.Proofs.YtghbfjmmjfklfaaW.PrintLast Go.Proofs.YtghbfjmmjfklfaaW.PrintMore
abbrev zeroN : Array Value := #[.int .u8 0, .int .u8 0, .int .i64 0, .slice none 0 0]
theorem append_node {X : World} {base n cv : Nat} {ok : Nat → Prop} {Av : Option Addr} {L : List S27} (hR : Kd.R k27 27 X base ok (.slice Av n cv) L) (hbase : base ≤ X.heap.size) (hfresh : ∀ k, X.heap.size ≤ k → ok k) (hl : L.length ≤ 2000000) (k w wd : Int) :
  ∃ g cap w1, (Builtin.append_ #[25, 25] 25 #[.slice Av n cv, .slice (some ⟨X.heap.size, 0, none⟩) 1 1]).run Try.prog ((X.alloc (.cells zeroN 27)).drew) = .ok (.slice (some ⟨g, 0, none⟩) (n + 1) cap) w1 ∧
   X.grownBy w1 (Value.slice Av n cv).ownBlock ∧ ((Value.slice Av n cv).ownBlock = some g ∨ X.heap.size ≤ g) ∧ base ≤ g ∧
   (∃ cur : Array Value, w1.heap[g]? = some (.cells cur 27 (0, 0)) ∧ (n + 1) * 4 ≤ cur.size) ∧
   w1.cell? ⟨g, n * 4, none⟩ = some (.int .u8 0) ∧ w1.cell? ⟨g, n * 4 + 1, none⟩ = some (.int .u8 0) ∧ w1.cell? ⟨g, n * 4 + 2, none⟩ = some (.int .i64 0) ∧ w1.cell? ⟨g, n * 4 + 3, none⟩ = some (.slice none 0 0) ∧
   Kd.R k27 27 (w1.setCells g (n * 4) [.int .u8 k, .int .u8 w, .int .i64 wd, .slice none 0 0]) base ok (.slice (some ⟨g, 0, none⟩) (n + 1) cap) (L ++ [⟨k, w, wd, []⟩]) := by
 obtain ⟨i0, hi, hzz⟩ := Option.map_eq_some_iff.1 info27; simp only [Prod.mk.injEq] at hzz; obtain ⟨hz0, hz1, hz2⟩ := hzz; have hn : n = L.length := (Kd.zbB hR).1; obtain ⟨Y, hY⟩ : ∃ Y, Y = (X.alloc (.cells zeroN 27)).drew := ⟨_, rfl⟩; have hbY : Below X.heap.size X Y := by rw [hY]; exact below_drew (zad (Below.refl _ _) _)
 have hgY : X.grownBy Y none := ⟨hbY.os, hbY.tape, hbY.output, hbY.size, fun q hq _ => hbY.block q hq⟩
 have hnew : Y.heap[X.heap.size]? = some (.cells zeroN 27 (0, 0)) := by rw [hY]; exact heap_alloc_new X _
 have hRY := Kd.zbE hR hbY; have hltO := Kd.R_lt hR; obtain ⟨h0, inner, hown, hr⟩ := hRY; rw [← hn] at hown; obtain ⟨v1, w1, hrun, hown1, hg1, hnil, hat⟩ := run_append_own_at (P := Try.prog) (w := Y) base 25 25 27 i0 _ 4 40 Try.underlying25 hi hz0 hz1 hz2 rfl (by decide) _ n inner hown ⟨X.heap.size, 0, none⟩ 1 1 zeroN.toList (by rfl)
  (fun j u hu => by rw [show (⟨X.heap.size, 0, none⟩ : Addr).add j = ⟨X.heap.size, j, none⟩ by simp [Addr.add, eq_comm], zae hnew j, ← Array.getElem?_toList]; exact hu) (by intro u hu; simp at hu; rcases hu with rfl | rfl | rfl <;> rfl) (by simp only [maxLen]; omega) (by omega) (Nat.le_trans hbase hbY.size)
 rw [← hY]; obtain ⟨g, cap, cur, rfl, hbg, hcur, hncap, hcapm, hcs, htake⟩ : ∃ g cap cur, v1 = .slice (some ⟨g, 0, none⟩) (n + 1) cap ∧ base ≤ g ∧ w1.heap[g]? = some (.cells cur 27 (0, 0)) ∧ n + 1 ≤ cap ∧ cap ≤ maxLen ∧ cur.size = cap * 4 ∧ cur.toList.take ((n + 1) * 4) = inner ++ zeroN.toList := by
  rcases hown1.2 with ⟨_, h⟩ | h
  ·omega
  ·exact h
 have hil : inner.length = n * 4 := hown.1; have hcell : ∀ j (hj : j < 4), w1.cell? ⟨g, n * 4 + j, none⟩ = zeroN.toList[j]? := by
  intro j hj
  rw [zae hcur, ← Array.getElem?_toList]; have h1 : (cur.toList.take ((n + 1) * 4))[n * 4 + j]? = (inner ++ zeroN.toList)[n * 4 + j]? := by rw [htake]
  rw [List.getElem?_take_of_lt (by omega), List.getElem?_append_right (by omega), hil, show n * 4 + j - n * 4 = j by omega] at h1
  exact h1
 have hat' : (Value.slice (some ⟨g, 0, none⟩) (n + 1) cap).ownBlock = (Value.slice Av n cv).ownBlock ∨ ∃ b, (Value.slice (some ⟨g, 0, none⟩) (n + 1) cap).ownBlock = some b ∧ Y.heap.size ≤ b := hat.imp_right (fun h => ⟨_, h, Nat.le_refl _⟩)
 have hgX : X.grownBy w1 (Value.slice Av n cv).ownBlock := World.grownBy.trans ⟨hbY.os, hbY.tape, hbY.output, hbY.size, fun q hq _ => hbY.block q hq⟩ hg1
 have hgo : (Value.slice Av n cv).ownBlock = some g ∨ X.heap.size ≤ g := by
  rcases hat' with h | ⟨b, h, hb⟩
  ·exact .inl (by rw [← h]; rfl)
  ·simp only [Value.ownBlock, Option.some.injEq] at h
   exact .inr (by have := hbY.size; omega)
 have hzero : k27.M Y base (fun _ => False) z27 zeroN.toList := k27_mkM Y base _ z27 (Kd.R_nil _ _ _ _ _)
 have hRw : Kd.R k27 27 w1 base ok (.slice (some ⟨g, 0, none⟩) (n + 1) cap) (L ++ [z27]) := Kd.R_appended h0 hr hzero (fun _ h => h.elim) (fun q hq => hfresh q (Nat.le_trans hbY.size hq)) (by rw [← hn]; exact hown1) hg1 hat'
 have hseg := (Kd.R_seg hRw (n : Int) (by omega) (by omega) (c := zeroN.toList) (seg := [.int .u8 k, .int .u8 w, .int .i64 wd, .slice none 0 0]) (j := 0) rfl
  (fun j u hu => by
   have hj : j < 4 := by simpa using (List.getElem?_eq_some_iff.1 hu).1
   rw [Int.toNat_natCast, show k27.sz = 4 from rfl, hcell j hj]
   exact hu) (Nat.le_refl 4) (x' := ⟨k, w, wd, []⟩) (okp := fun _ => False) (k27_mkM w1 base _ ⟨k, w, wd, []⟩ (Kd.R_nil _ _ _ _ _)) (fun _ h => h.elim)).1
 rw [Int.toNat_natCast, show k27.sz = 4 from rfl, Nat.add_zero, hn, List.set_append_right _ _ (Nat.le_refl _), Nat.sub_self] at hseg
 rw [← hn] at hseg; exact ⟨g, cap, w1, hrun, hgX, hgo, hbg, ⟨cur, hcur, by rw [hcs]; exact Nat.mul_le_mul_right 4 hncap⟩, hcell 0 (by omega), hcell 1 (by omega), hcell 2 (by omega), hcell 3 (by omega), hseg⟩
abbrev nodeW (t : S27) (A : Option Addr) (c : Nat) : Value := .agg #[.int .u8 t.f0, .int .u8 t.f1, .int .i64 t.f2, .slice A t.f3.length c]
def RSelf (t : S27) : Prop := ∀ (A B : Option Addr) (cA cB : Nat) (W : World), t.f3.length ≤ cA → t.f3.length ≤ cB → Kd.C k27 W A t.f3.length t.f3 → Kd.C k27 W B t.f3.length t.f3 →
  Calls Try.prog 16 #[nodeW t A cA, nodeW t B cB] W fun e W' => e = .returned (.bool true) ∧ Below W.heap.size W W'
theorem mixS : Try.prog.follows .mixedOrders = true := by kernel_rfl
set_option maxHeartbeats 4000000 in
set_option maxRecDepth 100000 in
theorem rself_step (k w wd : Int) (l : List S27) (hl : l.length ≤ 1000000000) (hel : ∀ (i : Nat) (h1 : i < l.length), RSelf l[i]) : RSelf ⟨k, w, wd, l⟩ := by
 intro A B cA cB W hcA hcB hA hB
 have hu := Try.underlying27; obtain ⟨X1, hX1⟩ : ∃ X, X = W.alloc (.cells #[.int .u8 k, .int .u8 w, .int .i64 wd, .slice A l.length cA] 27) := ⟨_, rfl⟩; obtain ⟨X, hX⟩ : ∃ X, X = X1.alloc (.cells #[.int .u8 k, .int .u8 w, .int .i64 wd, .slice B l.length cB] 27) := ⟨_, rfl⟩; have hs1 : X1.heap.size = W.heap.size + 1 := by rw [hX1]; simp
 have b1 : Below W.heap.size W X1 := by rw [hX1]; exact zad (Below.refl _ _) _
 have b2 : Below X1.heap.size X1 X := by rw [hX]; exact zad (Below.refl _ _) _
 have HK1 := zaa.mk (show X.heap[W.heap.size]? = some (.cells #[.int .u8 k, .int .u8 w, .int .i64 wd, .slice A l.length cA] 27 (0, 0)) from zaU (by rw [hX1]; exact heap_alloc_new _ _) b2)
 have HK2 := zaa.mk (show X.heap[W.heap.size + 1]? = some (.cells #[.int .u8 k, .int .u8 w, .int .i64 wd, .slice B l.length cB] 27 (0, 0)) by rw [hX, ← hs1]; exact heap_alloc_new _ _)
 have HBX := zaa.mk (zan b1 b2); have HA := zaa.mk (Kd.za4 hA HBX.out); have HB := zaa.mk (Kd.za4 hB HBX.out); have HEL := zaa.mk hel; have HLL := zaa.mk hl; clear hA hB hel hs1 b1 b2; have HCELL := zaa.mk (fun (wr : World) (hw : Below X.heap.size X wr) => (show (wr.cell? ⟨W.heap.size, 0, none⟩ = some (.int .u8 k) ∧ wr.cell? ⟨W.heap.size, 1, none⟩ = some (.int .u8 w) ∧ wr.cell? ⟨W.heap.size, 2, none⟩ = some (.int .i64 wd) ∧ wr.cell? ⟨W.heap.size, 3, none⟩ = some (.slice A l.length cA)) ∧ (wr.cell? ⟨W.heap.size + 1, 0, none⟩ = some (.int .u8 k) ∧ wr.cell? ⟨W.heap.size + 1, 1, none⟩ = some (.int .u8 w) ∧ wr.cell? ⟨W.heap.size + 1, 2, none⟩ = some (.int .i64 wd) ∧ wr.cell? ⟨W.heap.size + 1, 3, none⟩ = some (.slice B l.length cB)) from by
  have h1 := zaU HK1.out hw; have h2 := zaU HK2.out hw; have a0 := zae h1 0; have a1 := zae h1 1; have a2 := zae h1 2; have a3 := zae h1 3; have c0 := zae h2 0; have c1 := zae h2 1; have c2 := zae h2 2; have c3 := zae h2 3; simp at a0 a1 a2 a3 c0 c1 c2 c3; exact ⟨⟨a0, a1, a2, a3⟩, ⟨c0, c1, c2, c3⟩⟩))
 obtain ⟨⟨a0, a1, a2, a3⟩, ⟨c0, c1, c2, c3⟩⟩ := HCELL.out X (Below.refl _ _); unfold nodeW
 simp only; go_enter Try.func16, Try.ntmps16
 go_upto_region 1 with (fail)
 change Code.wp Try.prog _ _ _ ((W.alloc (.cells #[.int .u8 k, .int .u8 w, .int .i64 wd, .slice A l.length cA] 27)).alloc (.cells #[.int .u8 k, .int .u8 w, .int .i64 wd, .slice B l.length cB] 27))
 rw [← hX1, ← hX]; clear hX hX1; have d0 : (k != k) = false := by simp
 have d1 : (w != w) = false := by simp
 have d2 : (wd != wd) = false := by simp
 have d3 : ((l.length : Int) != (l.length : Int)) = false := by simp
 go_wp2
 clear d0 d1 d2 d3 a0 a1 a2 a3 c0 c1 c2 c3; go_loopg [5] l.length (fun kq v5 wr => ∃ i : Nat, v5 = .int .i64 i ∧ i ≤ l.length ∧ zaa (kq = l.length - i) ∧ zaa (Below X.heap.size X wr))
 case atStart => exact ⟨0, rfl, Nat.zero_le _, ⟨rfl⟩, ⟨Below.refl _ _⟩⟩
 case round =>
  obtain ⟨i, rfl, hi, HK, HW⟩ := hrel; have hll := HLL.out; obtain ⟨⟨_, _, _, a3⟩, ⟨_, _, _, c3⟩⟩ := HCELL.out wr HW.out; by_cases hlt : i < l.length
  case neg =>
   go_wp2
   go_ret
   exact ⟨rfl, zan HBX.out HW.out⟩
  have hA := Kd.za4 HA.out HW.out; have hB := Kd.za4 HB.out HW.out; obtain ⟨ad, A3, g3c, rfl, g0, g1, g2, g3, gl, gC⟩ := at_T27 hA (i : Int) (by omega) (by omega)
  obtain ⟨bd, B3, e3, rfl, b0, b1, b2, b3, bl, bC⟩ := at_T27 hB (i : Int) (by omega) (by omega)
  rw [Int.toNat_natCast] at g0 g1 g2 g3 b0 b1 b2 b3; have hrd : zbm l (i : Int) = l[i] := by
   unfold zbm
   rw [Int.toNat_natCast, List.getD_eq_getElem?_getD, List.getElem?_eq_getElem hlt]
   rfl
  rw [hrd] at g0 g1 g2 g3 gl gC b0 b1 b2 b3 bl bC; have HT := zaa.mk (HEL.out i hlt); obtain ⟨t, ht⟩ : ∃ t, t = l[i] := ⟨_, rfl⟩; rw [← ht] at g0 g1 g2 g3 gl gC HT b0 b1 b2 b3 bl bC; clear ht hrd hA hB a3 c3; have HSX := zaa.mk (fun (w' : World) (hw : Below wr.heap.size wr w') => (show (w'.cell? ⟨W.heap.size, 3, none⟩ = some (.slice (some ad) l.length cA) ∧ w'.cell? ⟨W.heap.size + 1, 3, none⟩ = some (.slice (some bd) l.length cB)) ∧ (w'.cell? (ad.add (i * 4)) = some (.int .u8 t.f0) ∧ w'.cell? ⟨(ad.add (i * 4)).block, (ad.add (i * 4)).off + 1, none⟩ = some (.int .u8 t.f1) ∧ w'.cell? ⟨(ad.add (i * 4)).block, (ad.add (i * 4)).off + 2, none⟩ = some (.int .i64 t.f2) ∧ w'.cell? ⟨(ad.add (i * 4)).block, (ad.add (i * 4)).off + 3, none⟩ = some (.slice A3 t.f3.length g3c)) ∧ (w'.cell? (bd.add (i * 4)) = some (.int .u8 t.f0) ∧ w'.cell? ⟨(bd.add (i * 4)).block, (bd.add (i * 4)).off + 1, none⟩ = some (.int .u8 t.f1) ∧ w'.cell? ⟨(bd.add (i * 4)).block, (bd.add (i * 4)).off + 2, none⟩ = some (.int .i64 t.f2) ∧ w'.cell? ⟨(bd.add (i * 4)).block, (bd.add (i * 4)).off + 3, none⟩ = some (.slice B3 t.f3.length e3)) from by
   obtain ⟨⟨_, _, _, x3⟩, ⟨_, _, _, y3⟩⟩ := HCELL.out w' (zan HW.out hw); exact ⟨⟨x3, y3⟩, ⟨(hw.cell (World.block_lt_of_cell? wr _ g0)).trans g0, (hw.cell (World.block_lt_of_cell? wr _ g1)).trans g1, (hw.cell (World.block_lt_of_cell? wr _ g2)).trans g2, (hw.cell (World.block_lt_of_cell? wr _ g3)).trans g3⟩, ⟨(hw.cell (World.block_lt_of_cell? wr _ b0)).trans b0, (hw.cell (World.block_lt_of_cell? wr _ b1)).trans b1, (hw.cell (World.block_lt_of_cell? wr _ b2)).trans b2, (hw.cell (World.block_lt_of_cell? wr _ b3)).trans b3⟩⟩))
  have HCALL := zaa.mk (fun (w' : World) (hw : Below wr.heap.size wr w') => HT.out A3 B3 g3c e3 w' gl bl (Kd.za4 gC hw) (Kd.za4 bC hw))
  clear g0 g1 g2 g3 gl gC b0 b1 b2 b3 bl bC HT; obtain ⟨⟨_, _, _, a3⟩, ⟨_, _, _, c3⟩⟩ := HCELL.out wr HW.out; go_upto_region 6 with (fail)
  clear a3 c3; obtain ⟨Y, hY⟩ : ∃ Y : World, Y = wr.drew := ⟨_, rfl⟩; have HBY := zaa.mk (show Below wr.heap.size wr Y by rw [hY]; exact (Below.refl _ _).drew)
  refine wp_region_noPanic (zbx [0, 1, 2, 3, 4, 5, 6, 7, 8, 9, 10, 11] (fun W' => (W'.cell? ⟨W.heap.size, 3, none⟩ = some (.slice (some ad) l.length cA) ∧ W'.cell? ⟨W.heap.size + 1, 3, none⟩ = some (.slice (some bd) l.length cB)) ∧ (W'.cell? (ad.add (i * 4)) = some (.int .u8 t.f0) ∧ W'.cell? ⟨(ad.add (i * 4)).block, (ad.add (i * 4)).off + 1, none⟩ = some (.int .u8 t.f1) ∧ W'.cell? ⟨(ad.add (i * 4)).block, (ad.add (i * 4)).off + 2, none⟩ = some (.int .i64 t.f2) ∧ W'.cell? ⟨(ad.add (i * 4)).block, (ad.add (i * 4)).off + 3, none⟩ = some (.slice A3 t.f3.length g3c)) ∧ (W'.cell? (bd.add (i * 4)) = some (.int .u8 t.f0) ∧ W'.cell? ⟨(bd.add (i * 4)).block, (bd.add (i * 4)).off + 1, none⟩ = some (.int .u8 t.f1) ∧ W'.cell? ⟨(bd.add (i * 4)).block, (bd.add (i * 4)).off + 2, none⟩ = some (.int .i64 t.f2) ∧ W'.cell? ⟨(bd.add (i * 4)).block, (bd.add (i * 4)).off + 3, none⟩ = some (.slice B3 t.f3.length e3))) mixS ?_)
  rw [← hY]; clear hY; have HS0 := zaa.mk (HSX.out Y HBY.out); refine zar 0 (v := ?_) HS0.out ?_ ?_
  rotate_left
  ·(intro W' hW'; obtain ⟨⟨s0, s1⟩, ⟨s2, s3, s4, s5⟩, ⟨s6, s7, s8, s9⟩⟩ := hW'; go_simp; try rfl)
  simp only [Act.put, zav]; refine zar 1 (v := ?_) HS0.out ?_ ?_
  rotate_left
  ·(intro W' hW'; obtain ⟨⟨s0, s1⟩, ⟨s2, s3, s4, s5⟩, ⟨s6, s7, s8, s9⟩⟩ := hW'; go_simp; try rfl)
  simp only [Act.put, zav]; refine zar 2 (v := ?_) HS0.out ?_ ?_
  rotate_left
  ·(intro W' hW'; obtain ⟨⟨s0, s1⟩, ⟨s2, s3, s4, s5⟩, ⟨s6, s7, s8, s9⟩⟩ := hW'; go_simp; try rfl)
  simp only [Act.put, zav]; refine zar 3 (v := ?_) HS0.out ?_ ?_
  rotate_left
  ·(intro W' hW'; obtain ⟨⟨s0, s1⟩, ⟨s2, s3, s4, s5⟩, ⟨s6, s7, s8, s9⟩⟩ := hW'; go_simp; try rfl)
  simp only [Act.put, zav]; refine zar 4 (v := ?_) HS0.out ?_ ?_
  rotate_left
  ·(intro W' hW'; obtain ⟨⟨s0, s1⟩, ⟨s2, s3, s4, s5⟩, ⟨s6, s7, s8, s9⟩⟩ := hW'; go_simp; try rfl)
  simp only [Act.put, zav]; refine zar 5 (v := ?_) HS0.out ?_ ?_
  rotate_left
  ·(intro W' hW'; obtain ⟨⟨s0, s1⟩, ⟨s2, s3, s4, s5⟩, ⟨s6, s7, s8, s9⟩⟩ := hW'; go_simp; try rfl)
  simp only [Act.put, zav]; refine zar 6 (v := ?_) HS0.out ?_ ?_
  rotate_left
  ·(intro W' hW'; obtain ⟨⟨s0, s1⟩, ⟨s2, s3, s4, s5⟩, ⟨s6, s7, s8, s9⟩⟩ := hW'; go_simp; try rfl)
  simp only [Act.put, zav]; refine zar 7 (v := ?_) HS0.out ?_ ?_
  rotate_left
  ·(intro W' hW'; obtain ⟨⟨s0, s1⟩, ⟨s2, s3, s4, s5⟩, ⟨s6, s7, s8, s9⟩⟩ := hW'; go_simp; try rfl)
  simp only [Act.put, zav]; refine zar 8 (v := ?_) HS0.out ?_ ?_
  rotate_left
  ·(intro W' hW'; obtain ⟨⟨s0, s1⟩, ⟨s2, s3, s4, s5⟩, ⟨s6, s7, s8, s9⟩⟩ := hW'; go_simp; try rfl)
  simp only [Act.put, zav]; refine zar 9 (v := ?_) HS0.out ?_ ?_
  rotate_left
  ·(intro W' hW'; obtain ⟨⟨s0, s1⟩, ⟨s2, s3, s4, s5⟩, ⟨s6, s7, s8, s9⟩⟩ := hW'; go_simp; try rfl)
  simp only [Act.put, zav]; refine zaX (i := 10) rfl (by kernel_rfl) (fun K hK => ?_)
  have hcall := HCALL.out Y HBY.out; unfold nodeW at hcall
  go_simp
  refine hcall.mono ?_
  rintro e w5 ⟨rfl, hb5⟩
  have HB5 := zaa.mk (zan HBY.out hb5); have HS5 := zaa.mk (HSX.out w5 HB5.out); clear hcall hb5; refine hK.out _ _ (fun _ => HS5.out) (fun _ => ?_)
  clear hK K; try simp only [Act.put, zav]
  refine zar 11 (v := ?_) HS5.out ?_ ?_
  rotate_left
  ·(intro W' hW'; obtain ⟨⟨s0, s1⟩, ⟨s2, s3, s4, s5⟩, ⟨s6, s7, s8, s9⟩⟩ := hW'; go_simp; try rfl)
  simp only [Act.put, zav]; refine zbd (by kernel_rfl) (NoPanic.normal ?_) _
  go_wp2
  go_roundg (l.length - (i + 1))
  case measure => have := HK.out; omega
  case rel => exact ⟨i + 1, by go_num, by omega, ⟨rfl⟩, ⟨zan HW.out (zan HB5.out (Below.refl _ _))⟩⟩
theorem rself_calls (z : Nat) : ∀ t : S27, SizeOf.sizeOf t < z → tsize t ≤ 1000000000 → RSelf t := by
 induction z with
 | zero => intro t h; exact absurd h (Nat.not_lt_zero _)
 | succ z ih =>
  rintro ⟨k, w, wd, l⟩ hz hs
  simp only [tsize] at hs; refine rself_step k w wd l (by have := length_lsize l; omega) fun i h1 => ih l[i] ?_ ?_
  ·have := List.sizeOf_lt_of_mem (List.getElem_mem h1)
   simp only [S27.mk.sizeOf_spec] at hz; omega
  ·have : tsize l[i] ≤ lsize l := by
    clear ih hz hs
    induction l generalizing i with
    | nil => exact absurd h1 (Nat.not_lt_zero _)
    | cons x r ih =>
     simp only [lsize]; cases i with
     | zero => simp
     | succ i =>
      have := ih i (by simpa using h1)
      simp only [List.getElem_cons_succ]; omega
   omega
end Go.Proofs.Ytghbfjmmjfklfaa.H
namespace Go.Proofs.YtghbfjmmjfklfaaW.PrintWords
open Go.ChangeShapes Go.WideShapes
def Opens {α : Type} (d : Kd α) (P : Program) (e : TypeId) (p : α → Prop) : Prop :=
 d.sz = P.cellsOf e ∧ ∀ (H : Type) (enc : TypeId × Value → H) (w : World) (base : Nat) (spare : Nat → Bool) (held : Bool) (fuel : Nat) (cs : List Value) (x : DataW H × List MemPlace),
  DataW.trod enc P w base spare held fuel e cs = some x → (∀ n ∈ x.1.weights P e, n ≤ reachBytes) → ∃ y : α, d.K w y cs ∧ p y
theorem opens_int {P : Program} {e : TypeId} {k : IntKind} (he : P.underlying e = some (.int k)) (hc : P.cellsOf e = 1) : Opens (Kd.int k) P e (fun n => (Lit.int k n).wf = true) :=
 ⟨hc.symm, fun H enc w base spare held fuel cs x h _ => by
  obtain ⟨n, rfl, _, hw⟩ := DataW.trod_int he h; exact ⟨n, rfl, hw⟩⟩
theorem weightsAll_range {H : Type} {P : Program} {e : TypeId} {n i : Nat} (D : Nat → DataW H) (hi : i < n) {m : Nat} (hm : m ∈ (D i).weights P e) : m ∈ DataW.weightsAll P e ((List.range n).map D) := by
 have key : ∀ (l : List (DataW H)) (d : DataW H), d ∈ l → m ∈ d.weights P e → m ∈ DataW.weightsAll P e l := by
  intro l
  induction l with
  | nil => intro d hd; cases hd
  | cons a r ih =>
   intro d hd hm
   simp only [DataW.weightsAll, List.mem_append]; rcases List.mem_cons.1 hd with rfl | hd
   ·exact .inl hm
   ·exact .inr (ih d hd hm)
 exact key _ (D i) (List.mem_map.2 ⟨i, List.mem_range.2 hi, rfl⟩) hm
theorem opens_row {α : Type} [Inhabited α] {d : Kd α} {P : Program} {t e : TypeId} {p : α → Prop} {B : Nat} (ht : P.underlying t = some (.slice e)) (hB : P.bytesOf e = B) (hd : Opens d P e p)
  {H : Type} {enc : TypeId × Value → H} {w : World} {base : Nat} {spare : Nat → Bool} {held : Bool} {fuel : Nat} {cs : List Value} {x : DataW H × List MemPlace}
  (h : DataW.trod enc P w base spare held fuel t cs = some x) (hz : ∀ n ∈ x.1.weights P t, n ≤ reachBytes) :
  ∃ A c, ∃ l : List α, cs = [.slice A l.length c] ∧ l.length ≤ c ∧ d.C w A l.length l ∧ l.length * B ≤ 140737488351232 ∧ ∀ y ∈ l, p y := by
 rcases Deep.open_slice ht h with ⟨rfl, _⟩ | ⟨a, len, cap, m, n, D, Pl, rfl, hb, hl, hm, hmm, rfl, hx⟩
 ·exact ⟨none, 0, [], rfl, Nat.le_refl _, ⟨rfl, by simp, fun h => absurd h (by simp)⟩, by simp, by simp⟩
 ·have hle : len ≤ m := by rw [hmm]; split <;> omega
  have hel : ∀ i, i < len → ∃ y : α, p y ∧ ∃ c : List Value, c.length = d.sz ∧ d.K w y c ∧ ∀ j u, c[j]? = some u → w.cell? (a.add (i * d.sz + j)) = some u := by
   intro i hi
   obtain ⟨c, hc, htr⟩ := hx i (by omega)
   obtain ⟨y, hK, hp⟩ := hd.2 H enc w base spare held n c _ htr (fun q hq => hz q (by
    simp only [DataW.weights, ht, List.mem_cons, List.mem_append]; exact .inr (.inl (weightsAll_range D hi hq))))
   refine ⟨y, hp, c, d.K_len hK, hK, fun j u hu => ?_⟩
   obtain ⟨_, hlen, hcell⟩ := World.cells?_some hc; have := hcell j (by rw [← hlen]; exact (List.getElem?_eq_some_iff.1 hu).1)
   rw [Deep.add_add, ← hd.1] at this; rw [this, hu]
  obtain ⟨f, hf⟩ := Deep.choose_lt hel; refine ⟨some a, cap, (List.range len).map f, by simp, by simpa using hl, ⟨rfl, by simp only [List.length_map, List.length_range]; simp only [maxLen] at hm; omega, fun _ => ⟨a, rfl, fun j q hj => ?_⟩⟩, ?_, ?_⟩
  ·simp only [List.getElem?_map, Option.map_eq_some_iff] at hj
   obtain ⟨i, hi, rfl⟩ := hj; obtain ⟨hlt, rfl⟩ := List.getElem?_eq_some_iff.1 hi; simp only [List.length_range] at hlt; simp only [List.getElem_range]; obtain ⟨_, c, h1, h2, h3⟩ := hf j hlt; exact ⟨c, h1, h2, h3⟩
  ·have := hz (((List.range len).map D).length + ((List.range (m - len)).map fun j => D (len + j)).length |> (· * P.bytesOf e)) (by simp [DataW.weights, ht])
   simp only [List.length_map, List.length_range] at this ⊢; rw [hB] at this; refine Nat.le_trans (Nat.mul_le_mul_right _ ?_) this
   omega
  ·intro y hy
   obtain ⟨i, hi, rfl⟩ := List.mem_map.1 hy; exact (hf i (List.mem_range.1 hi)).1
theorem opens_arg {α : Type} [Inhabited α] {d : Kd α} {P : Program} {t e : TypeId} {p : α → Prop} {B : Nat} (ht : P.underlying t = some (.slice e)) (hB : P.bytesOf e = B) (hd : Opens d P e p)
  {H : Type} {enc : TypeId × Value → H} {w : World} {base : Nat} {spare : Nat → Bool} {held : Bool} {a : Option Addr} {len cap : Nat} {D : DataW H} {ps : List MemPlace} {ts : List TypeId} {ds : List (DataW H)} {j : Nat}
  (hsz : (DataW.weightsEach P ts ds).all (· ≤ reachBytes) = true) (hts : ts[j]? = some t) (hds : ds[j]? = some D) (h : DataW.Trod enc P w base spare held t (.slice a len cap) D ps) :
  ∃ l : List α, l.length = len ∧ l.length ≤ cap ∧ d.C w a l.length l ∧ l.length * B ≤ 140737488351232 ∧ ∀ y ∈ l, p y := by
 obtain ⟨fuel, hf⟩ := h; obtain ⟨A, c, l, he, hl, hC, hb, hp⟩ := opens_row ht hB hd hf (fun n hn => by
  have := List.all_eq_true.1 hsz n (DataW.weights_mem_each hts hds n hn)
  simpa using this)
 simp [Value.cells] at he; obtain ⟨rfl, rfl, rfl⟩ := he; exact ⟨l, rfl, hl, hC, hb, hp⟩
end Go.Proofs.YtghbfjmmjfklfaaW.PrintWords
namespace Go.Proofs.Ytghbfjmmjfklfaa.H
open Go.RowKit Go.Proofs.YtghbfjmmjfklfaaW.PrintWords Go.Proofs.YtghbfjmmjfklfaaW.PrintLast Go.Proofs.YtghbfjmmjfklfaaW.PrintMore
instance : Inhabited S94 := ⟨z94⟩
theorem cells5 : Try.prog.cellsOf 5 = 1 := by kernel_rfl
theorem cellsI : Try.prog.cellsOf 3 = 1 := by kernel_rfl
theorem opens5 : Opens (Kd.int .u8) Try.prog 5 (fun n => (Lit.int .u8 n).wf = true) := opens_int Try.underlying5 cells5
theorem opensI : Opens (Kd.int .i64) Try.prog 3 (fun n => (Lit.int .i64 n).wf = true) := opens_int Try.underlying3 cellsI
instance : Inhabited S39 := ⟨z39⟩
end Go.Proofs.Ytghbfjmmjfklfaa.H
namespace Go.Proofs.Ytghbfjmmjfklfaa.H
open Go.RowKit Go.Proofs.YtghbfjmmjfklfaaW.PrintWords Go.Proofs.YtghbfjmmjfklfaaW.PrintLast Go.Proofs.YtghbfjmmjfklfaaW.PrintMore
open Go.Maps (Keyed IsMap)
section
def rawE (v : Value) : Option (DataW Value × List MemPlace) := some (.held v, [])
def mval (D : DataW Value) (kl : Lit) (z : Value) : Value := match D.atKey kl (.held z) with | .held v => v | _ => z
variable {P : Program} {k t e : TypeId} {W : World} {b n : Nat} {D : DataW Value} {key val z : Value} {kl kl' : Lit}
theorem rawE_inv {v : Value} {d : DataW Value} {ps : List MemPlace} (h : rawE v = some (d, ps)) : d = .held v := by
 simp [rawE] at h; exact h.1.symm
theorem omap_look_ok (h : W.ownsMap P k rawE b n D) (K : Keyed P k) (ht : P.underlying t = some (.map k e)) (hz : (zeroValue e).run P W = .ok z W) (hkey : keyOf P k key = some kl) :
  (Instr.lookup t (.map (some b)) key true).run P W = .ok (.tuple #[mval D kl z, .bool (Maps.has D kl)]) W := by
 obtain ⟨v, ps, hr, hv⟩ := h.look_ok K ht hz (zd := .held z) (zp := []) rfl hkey; rw [hr]; unfold mval
 rw [rawE_inv hv]
theorem omap_store (h : W.ownsMap P k rawE b n D) (K : Keyed P k) (ht : P.underlying t = some (.map k e)) (hn : n < maxLen) (hkey : keyOf P k key = some kl) :
  ∃ W', (Instr.mapUpdate t (.map (some b)) key val).run P W = .ok () W' ∧ W'.ownsMap P k rawE b (n + 1) (D.put kl (.held val)) ∧ W.mapTurned W' b :=
 h.store K ht hn hkey rfl
theorem omap_delete (h : W.ownsMap P k rawE b n D) (K : Keyed P k) (ht : P.underlying t = some (.map k e)) (hkey : keyOf P k key = some kl) (ty : TypeId) :
  ∃ W', (Builtin.delete_ #[t, k] ty #[.map (some b), key]).run P W = .ok (.tuple #[]) W' ∧ W'.ownsMap P k rawE b n (D.del kl) ∧ W.mapTurned W' b :=
 h.drop K ht hkey ty
theorem mval_put_same (hD : IsMap D) (hk : WideAt.IsKeyLit kl) : mval (D.put kl (.held val)) kl z = val := by
 unfold mval
 rw [Maps.atKey_put_same hD hk]
theorem mval_put_other (hne : kl' ≠ kl) : mval (D.put kl (.held val)) kl' z = mval D kl' z := by
 unfold mval
 rw [Maps.atKey_put_other hne]
theorem mval_del_same : mval (D.del kl) kl z = z := by
 unfold mval
 rw [Maps.atKey_del_same]
theorem mval_del_other (hne : kl' ≠ kl) : mval (D.del kl) kl' z = mval D kl' z := by
 unfold mval
 rw [Maps.atKey_del_other hne]
theorem mval_empty : mval (.map []) kl z = z := by simp [mval, DataW.atKey]
end
theorem zbQ {W W' : World} {b : Nat} (h : W.mapTurned W' b) : W.grownBy W' (some b) := h.grown
end Go.Proofs.Ytghbfjmmjfklfaa.H
namespace Go.Proofs.Ytghbfjmmjfklfaa.H
open Go.RowKit Go.Shelf Go.Proofs.YtghbfjmmjfklfaaW.PrintWords Go.Proofs.YtghbfjmmjfklfaaW.PrintLast Go.Proofs.YtghbfjmmjfklfaaW.PrintMore
section
attribute [local go_sem] Oper.semAt_some
def fr (bx : List Nat) (W : World) (k : Nat) : Prop := ∃ b, b ∈ bx ∧ ∃ v, W.cell? ⟨b, 0, none⟩ = some v ∧ v.ownBlock = some k
def Valid (bx : List Nat) (W : World) : Prop := ∀ k, fr bx W k → k < W.heap.size
theorem fr.below {bx : List Nat} {B : Nat} (hbx : ∀ b ∈ bx, b < B) {W W1 : World} (hB : B ≤ W.heap.size) (h : Below W.heap.size W W1) {k : Nat} (hf : fr bx W1 k) : fr bx W k := by
 obtain ⟨b, hb, v, hv, ho⟩ := hf; have hlt := hbx b hb; exact ⟨b, hb, v, by rw [← h.cell (p := ⟨b, 0, none⟩) (show b < W.heap.size by omega)]; exact hv, ho⟩
structure Kp (n0 B : Nat) (bx : List Nat) (W W' : World) : Prop where
 low : Below n0 W W'
 high : ∀ (k : Nat) (cs : Array Value) (t : TypeId) (fz : Nat × Nat), B ≤ k → ¬ fr bx W k → W.heap[k]? = some (.cells cs t fz) → W'.heap[k]? = some (.cells cs t fz)
 own : ∀ k, fr bx W' k → fr bx W k ∨ W.heap.size ≤ k
 rest : ∀ (k : Nat) (o : Obj), B + 2 ≤ k → o.isCells = false → W.heap[k]? = some o → W'.heap[k]? = some o
theorem Kp.refl (n0 B : Nat) (bx : List Nat) (W : World) : Kp n0 B bx W W := ⟨Below.refl _ _, fun _ _ _ _ _ _ h => h, fun _ h => .inl h, fun _ _ _ _ h => h⟩
theorem Kp.notfr {n0 B : Nat} {bx : List Nat} {W W' : World} (h : Kp n0 B bx W W') {k : Nat} (hk : k < W.heap.size) (hn : ¬ fr bx W k) : ¬ fr bx W' k := fun hf => (h.own k hf).elim hn (fun h => by omega)
theorem Kp.trans {n0 B : Nat} {bx : List Nat} {W W1 W2 : World} (h : Kp n0 B bx W W1) (k : Kp n0 B bx W1 W2) : Kp n0 B bx W W2 :=
 ⟨h.low.trans k.low, fun q cs t fz hq hn hc => k.high q cs t fz hq (h.notfr (zaM hc) hn) (h.high q cs t fz hq hn hc), fun q hq => (k.own q hq).elim (h.own q) (fun h2 => .inr (Nat.le_trans h.low.size h2)), fun q o hq hc hh => k.rest q o hq hc (h.rest q o hq hc hh)⟩
theorem Kp.of_below {n0 B : Nat} {bx : List Nat} (hbx : ∀ b ∈ bx, b < B) {W W1 : World} (hn : n0 ≤ W.heap.size) (hB : B ≤ W.heap.size) (h : Below W.heap.size W W1) : Kp n0 B bx W W1 := ⟨h.mono hn, fun k cs t fz _ _ hc => (h.block k (zaM hc)).trans hc, fun k hf => .inl (fr.below hbx hB h hf), fun k o _ _ hc => (h.block k (zaM hc)).trans hc⟩
theorem below_putObj {n k : Nat} (W : World) (o : Obj) (h : n ≤ k) : Below n W (W.putObj k o) := ⟨rfl, rfl, rfl, by simp, fun q hq => World.putObj_heap_other (by omega)⟩
theorem Kp.record {n0 B : Nat} {bx : List Nat} (hbx : ∀ b ∈ bx, b < B) (hn : n0 ≤ B) (W : World) (o o' : Obj) (h : W.heap[B + 1]? = some o) (hc : o.isCells = false) : Kp n0 B bx W (W.putObj (B + 1) o') := by
 refine ⟨below_putObj W o' (by omega), fun k cs t fz hk _ hcs => ?_, fun k hf => .inl ?_, fun k q hk _ hq => ?_⟩
 ·by_cases e : k = B + 1
  ·subst e
   rw [h] at hcs; cases hcs; cases hc
  ·exact (World.putObj_heap_other e).trans hcs
 ·obtain ⟨b, hb, v, hv, ho⟩ := hf
  have hlt := hbx b hb; refine ⟨b, hb, v, ?_, ho⟩
  rw [← (below_putObj W o' (Nat.le_refl (B + 1))).cell (p := ⟨b, 0, none⟩) (show b < B + 1 by omega)]
  exact hv
 ·exact (World.putObj_heap_other (by omega)).trans hq
mutual
def AT.pre : AT → Int → Int → List (AT × Int × Int)
 | .node k w wd A c kids, f, d => (.node k w wd A c kids, f, d) :: preL kids f d
def preL : List AT → Int → Int → List (AT × Int × Int)
 | [], _, _ => []
 | T :: r, f, d => T.pre f (wrap64 (d + 1)) ++ preL r (wrap64 (f + T.wd)) d
end
def seenV (x : AT × Int × Int) : Value := .agg #[.int .u8 x.1.k, .int .u8 x.1.w, .int .i64 x.1.wd, .slice x.1.A x.1.kids.length x.1.c, .int .i64 x.2.1, .int .i64 (wrap64 (x.2.1 + x.1.wd)), .int .i64 x.2.2]
abbrev Told (W0 : World) := { x : AT × Int × Int // AtT W0 x.1 }
abbrev downV (yb db : Nat) : Value := .func (.func 75) #[] #[.pointer (some ⟨yb, 0, none⟩), .pointer (some ⟨db, 0, none⟩)]
section
variable (W0 : World) (n0 B : Nat) (bx : List Nat) (l : Nat) (Sp : List (Told W0) → Prop) (J Jx : List (Told W0) → World → Prop)
def DownPost (pre : List (Told W0)) (xs : List (AT × Int × Int)) (W : World) (e : Ending) (W' : World) : Prop :=
 (e = .returned (.bool true) ∧ Kp n0 B bx W W' ∧ W.heap.size ≤ W'.heap.size ∧ ∃ ys : List (Told W0), ys.map (·.1) = xs ∧ J (pre ++ ys) W') ∨ (e = .returned (.bool false) ∧ ∃ ys : List (Told W0), ys.map (·.1) <+: xs ∧ Jx (pre ++ ys) W')
variable (hn0 : n0 = W0.heap.size) (hB : n0 ≤ B) (hbx : ∀ b ∈ bx, b < B) (hJV : ∀ s W, J s W → Valid bx W)
 (hJ : ∀ s (W W' : World), B ≤ W.heap.size → J s W → Below W.heap.size W W' → J s W')
 (hY : ∀ m pre x W, J pre W → Sp (pre ++ [x]) → YieldAt Fence.wide m Try.prog l #[seenV x.1] W fun e W' =>
   (e = .returned (.bool true) ∧ J (pre ++ [x]) W' ∧ Kp n0 B bx W W') ∨ (e = .returned (.bool false) ∧ Jx (pre ++ [x]) W' ∧ Kp n0 B bx W W'))
include hn0 hB hbx hJV hJ hY
set_option maxHeartbeats 4000000 in
set_option maxRecDepth 100000 in
theorem down_in (z : Nat) : ∀ (T : AT), SizeOf.sizeOf T < z → AtT W0 T → ∀ (f d : Int) (n : Nat) (pre : List (Told W0)) (W : World) (yb db : Nat), Below n0 W0 W → B ≤ W.heap.size → B ≤ yb → B ≤ db → ¬ fr bx W yb → ¬ fr bx W db → W.heap[yb]? = some (one1 (.func (.yield l) #[] #[]) 127) → W.heap[db]? = some (one1 (downV yb db) 128) →
  J pre W → (∀ ys : List (Told W0), ys.map (·.1) <+: T.pre f d → Sp (pre ++ ys)) →
  CallsIn Fence.wide n Try.prog 75 #[T.val, .int .i64 f, .int .i64 d, .pointer (some ⟨yb, 0, none⟩), .pointer (some ⟨db, 0, none⟩)] W (DownPost W0 n0 B bx J Jx pre (T.pre f d) W) := by
 induction z with
 | zero => intro T h; exact absurd h (Nat.not_lt_zero _)
 | succ z ih =>
 rintro ⟨k, w, wd, A, c, kids⟩ hz hT f d n pre W yb db hlow hBW hyb hdb hny hnd hy hd hJ0 hN
 simp only [AT.val, AT.k, AT.w, AT.wd, AT.A, AT.c, AT.kids]; have HT := zaa.mk hT; have IH := zaa.mk ih; clear ih; have hU : AtT W0 (.node k w wd A c kids) := hT; obtain ⟨W1, hW1⟩ : ∃ W1, W1 = W.alloc (.cells #[.int .u8 k, .int .u8 w, .int .i64 wd, .slice A kids.length c] 27) := ⟨_, rfl⟩; have hby := zaM hy; have hbd := zaM hd; have hbelow : Below W.heap.size W W1 := by rw [hW1]; exact zad (Below.refl _ _) _
 have hbox : W1.heap[W.heap.size]? = some (.cells #[.int .u8 k, .int .u8 w, .int .i64 wd, .slice A kids.length c] 27 (0, 0)) := by rw [hW1]; exact heap_alloc_new W _
 have hpl : Sp (pre ++ [⟨(.node k w wd A c kids, f, d), hT⟩]) := hN _ (by rw [List.map_singleton, AT.pre]; exact List.cons_prefix_cons.2 ⟨rfl, List.nil_prefix⟩)
 have HN := zaa.mk hN; clear hN; obtain ⟨fn, tmps, assign, body, hyr, hR⟩ := hY (n - 1) pre ⟨(.node k w wd A c kids, f, d), hT⟩ W1 (hJ pre W W1 hBW hJ0 hbelow) hpl; simp only [seenV, AT.k, AT.w, AT.wd, AT.A, AT.c, AT.kids] at hyr; have HR := zaa.mk hR; have HBOX := zaa.mk hbox; have HY1 := zaa.mk (zaU hy hbelow); have HD1 := zaa.mk (zaU hd hbelow); have HBL := zaa.mk hbelow; rw [hW1] at hyr; have ky := zae hy 0; simp at ky; have hu := Try.underlying27; have hus := Try.underlying119; clear hR hbox hbelow hy hd; refine callsIn_of_wp Try.func75 rfl trivial ?_ rfl
 simp only [Try.ntmps75, List.size_toArray, List.length_cons, List.length_nil, Nat.reduceAdd, Nat.reduceSub, Array.replicate_succ, Array.replicate_zero, List.push_toArray, List.append_toArray, List.nil_append, List.cons_append]
 gi_wp2
 refine ⟨fun h => (by cases h), ?_⟩
 rw [← hW1]; obtain ⟨x, hx⟩ : ∃ x : Told W0, x = ⟨(.node k w wd A c kids, f, d), hT⟩ := ⟨_, rfl⟩; have HX := zaa.mk (show x.1 = (.node k w wd A c kids, f, d) by rw [hx])
 have HR2 := HR.out; rw [← hx] at HR2; refine HR2.mono ?_
 clear HR HR2 hx hyr ky; rintro e W2 (⟨rfl, hJ2, hk2⟩ | ⟨rfl, hx2, _⟩)
 case inr =>
  gi_wp2
  go_ret
  exact .inr ⟨rfl, [x], by rw [List.map_singleton, HX.out, AT.pre]; exact List.cons_prefix_cons.2 ⟨rfl, List.nil_prefix⟩, hx2⟩
 have hn0W : n0 ≤ W.heap.size := Nat.le_trans hB hBW; have hnf : ∀ k, k < W1.heap.size → (¬ fr bx W k ∨ W.heap.size ≤ k) → ¬ fr bx W1 k := fun k hk h hf => by
  have h1 := fr.below hbx hBW HBL.out hf; have h2 := hJV _ _ hJ0 k h1; rcases h with h | h
  ·exact h h1
  ·omega
 have hnB := hnf W.heap.size (zaM HBOX.out) (.inr (Nat.le_refl _)); have hnY := hnf yb (zaM HY1.out) (.inl hny); have hnD := hnf db (zaM HD1.out) (.inl hnd); have hnB2 := zaa.mk (hk2.notfr (zaM HBOX.out) hnB); have hnY2 := zaa.mk (hk2.notfr (zaM HY1.out) hnY); have hnD2 := zaa.mk (hk2.notfr (zaM HD1.out) hnD); have HK2 := zaa.mk (Kp.trans (Kp.of_below hbx hn0W hBW HBL.out) hk2); have HS2 := zaa.mk (Nat.le_trans HBL.out.size hk2.low.size); have HBOX2 := zaa.mk (hk2.high _ _ _ _ hBW hnB HBOX.out); have HY2 := zaa.mk (hk2.high _ _ _ _ hyb hnY HY1.out); have HD2 := zaa.mk (hk2.high _ _ _ _ hdb hnD HD1.out); have HL2 := zaa.mk (hlow.trans (HK2.out.low)); have HJ2 := zaa.mk hJ2; have kb3 := zae HBOX2.out 3; simp at kb3; clear hk2 HBOX HY1 HD1 HBL hW1 hJ2 hnf hnB hnY hnD
 gi_wp2
 gi_loopg [1, 26] kids.length (fun kq v1 v26 w' => ∃ (i : Nat) (f' : Int) (ys : List (Told W0)), v26 = .int .i64 i ∧ v1 = .int .i64 f' ∧ i ≤ kids.length ∧ zaa (kq = kids.length - i) ∧ zaa (Kp n0 B bx W2 w') ∧ W2.heap.size ≤ w'.heap.size ∧ zaa (J (pre ++ x :: ys) w') ∧ zaa (preL kids f d = ys.map (·.1) ++ preL (kids.drop i) f' d))
 case atStart => exact ⟨0, f, [], rfl, rfl, Nat.zero_le _, ⟨rfl⟩, ⟨Kp.refl _ _ _ _⟩, Nat.le_refl _, ⟨by simpa using HJ2.out⟩, ⟨rfl⟩⟩
 case round =>
  clear kb3; obtain ⟨i, f', ys, rfl, rfl, hi, HK, HKp, hsz, HJJ, HP⟩ := hrel; by_cases hlt : i < kids.length
  ·have d1 : decide ((i : Int) < (kids.length : Int)) = true := decide_eq_true (by omega)
   obtain ⟨ad, rfl, g, hTk⟩ := AtT.kid hU i hlt; have hszk : SizeOf.sizeOf kids[i] < z := by
    have := List.sizeOf_lt_of_mem (List.getElem_mem hlt); simp only [AT.node.sizeOf_spec] at hz; omega
   have HP2 := zaa.mk (show preL kids f d = ys.map (·.1) ++ (kids[i].pre f' (wrap64 (d + 1)) ++ preL (kids.drop (i + 1)) (wrap64 (f' + kids[i].wd)) d) by
    rw [HP.out, List.drop_eq_getElem_cons hlt, preL])
   obtain ⟨T, hTe⟩ : ∃ T, T = kids[i] := ⟨_, rfl⟩; rw [← hTe] at g hTk hszk HP2; have hlow2 : Below W0.heap.size W0 wr := by rw [← hn0]; exact HL2.out.trans HKp.out.low
   have g' := g.below hlow2; have HBOX3 := zaa.mk (HKp.out.high _ _ _ _ hBW hnB2.out HBOX2.out); have HY3 := zaa.mk (HKp.out.high _ _ _ _ hyb hnY2.out HY2.out); have HD3 := zaa.mk (HKp.out.high _ _ _ _ hdb hnD2.out HD2.out); have hBw : B ≤ wr.heap.size := by have := HS2.out; omega
   obtain ⟨k1, w1, wd1, A1, c1, kids1⟩ := T; obtain ⟨W3, hW3⟩ : ∃ W3, W3 = wr.alloc (.cells #[.int .u8 k1, .int .u8 w1, .int .i64 wd1, .slice A1 kids1.length c1] 27) := ⟨_, rfl⟩; have hb3 : Below wr.heap.size wr W3 := by rw [hW3]; exact zad (Below.refl _ _) _
   have hs3 : wr.heap.size ≤ W3.heap.size := hb3.size; have hlen : ∀ zs : List (Told W0), zs.map (·.1) <+: (AT.node k1 w1 wd1 A1 c1 kids1).pre f' (wrap64 (d + 1)) → Sp ((pre ++ x :: ys) ++ zs) := fun zs hz => by
    have h1 := HN.out (x :: (ys ++ zs)) (by
     rw [List.map_cons, HX.out, AT.pre, HP2.out, List.map_append]; exact List.cons_prefix_cons.2 ⟨rfl, (List.prefix_append_right_inj _).2 (hz.trans (List.prefix_append _ _))⟩)
    rw [List.append_assoc, List.cons_append]; exact h1
   have hVw := hJV _ _ HJJ.out; have hnY3 : ¬ fr bx W3 yb := fun hf => HKp.out.notfr (zaM HY2.out) hnY2.out (fr.below hbx hBw hb3 hf)
   have hnD3 : ¬ fr bx W3 db := fun hf => HKp.out.notfr (zaM HD2.out) hnD2.out (fr.below hbx hBw hb3 hf)
   have hnX3 := zaa.mk (show ¬ fr bx W3 wr.heap.size from fun hf => by have := hVw _ (fr.below hbx hBw hb3 hf); omega)
   have hcall := IH.out (.node k1 w1 wd1 A1 c1 kids1) hszk hTk f' (wrap64 (d + 1)) (n - 1) (pre ++ x :: ys) W3 yb db (by rw [hn0]; exact hlow2.trans (hb3.mono hlow2.size)) (Nat.le_trans hBw hs3) hyb hdb hnY3 hnD3 (zaU HY3.out hb3) (zaU HD3.out hb3) (hJ _ wr W3 hBw HJJ.out hb3) hlen
   simp only [AT.val, AT.k, AT.w, AT.wd, AT.A, AT.c, AT.kids] at hcall; have HCALL := zaa.mk hcall; have hbox3 : W3.heap[wr.heap.size]? = some (.cells #[.int .u8 k1, .int .u8 w1, .int .i64 wd1, .slice A1 kids1.length c1] 27 (0, 0)) := by rw [hW3]; exact heap_alloc_new wr _
   have HB3 := zaa.mk hbox3; obtain ⟨q0, q1, q2, q3⟩ := g'; simp only [AT.k, AT.w, AT.wd, AT.A, AT.c, AT.kids] at q0 q1 q2 q3; have kd := zae HD3.out 0; simp at kd; have hbdw := zaM HD3.out; have HKP3 := zaa.mk (HKp.out.trans (Kp.of_below hbx (Nat.le_trans hB hBw) hBw hb3)); clear hcall hbox3 hVw hnY3 hnD3 HP g hTk hszk HKp HJJ hTe
   gi_wp2
   refine ⟨trivial, fun h => (by cases h), ?_⟩
   rw [← hW3]; refine HCALL.out.mono ?_
   clear HCALL kd q0 q1 q2 q3 hW3; rintro e W4 (⟨rfl, hk4, hs4, zs, hz4, hj4⟩ | ⟨rfl, zs, hz4, hx4⟩)
   ·have kb := zae (hk4.high _ _ _ _ hBw hnX3.out HB3.out) 2
    simp at kb; have HK4 := zaa.mk (HKP3.out.trans hk4); have HJ4 := zaa.mk hj4; have HZ4 := zaa.mk hz4; clear hk4 hj4 hz4
    gi_wp2
    gi_roundg (kids.length - (i + 1))
    case measure => have := HK.out; omega
    case rel =>
     have hm : kids.length ≤ 9223372036854775807 := by simp only [AtT] at hU; exact hU.2.1
     exact ⟨i + 1, wrap64 (f' + wd1), ys ++ zs, by rw [show wrap64 ((i : Int) + 1) = ((i + 1 : Nat) : Int) by unfold wrap64; omega], rfl, by omega, ⟨rfl⟩, HK4, by omega, ⟨by simpa using HJ4.out⟩, ⟨by rw [HP2.out, List.map_append, HZ4.out, List.append_assoc]; rfl⟩⟩
   ·have HZ4 := zaa.mk hz4
    have HX4 := zaa.mk hx4; clear hz4 hx4
    gi_wp2
    go_ret
    refine .inr ⟨rfl, x :: (ys ++ zs), ?_, by simpa using HX4.out⟩
    obtain ⟨q, hq⟩ := HZ4.out; refine ⟨q ++ preL (kids.drop (i + 1)) (wrap64 (f' + wd1)) d, ?_⟩
    rw [List.map_cons, HX.out, AT.pre, HP2.out, ← hq, List.map_append]; simp [AT.wd]
  ·have d1 : decide ((i : Int) < (kids.length : Int)) = false := decide_eq_false (by omega)
   obtain rfl : i = kids.length := by omega
   gi_wp2
   go_ret
   refine .inl ⟨rfl, HK2.out.trans HKp.out, Nat.le_trans HS2.out hsz, x :: ys, ?_, HJJ.out⟩
   rw [List.map_cons, HX.out, AT.pre, HP.out, List.drop_length, preL, List.append_nil]
end
def AT.all (T : AT) : List (AT × Int × Int) := if okB T.erase then T.pre 0 0 else []
theorem abides_below {α : Type} {base : Nat} {J : List α → World → Prop} (h : OwnFrom base J) (s : List α) (W W' : World) (hJ : J s W) (hb : Below W.heap.size W W') : J s W' :=
 h s W W' none hJ ⟨hb.os, hb.tape, hb.output, hb.size, fun k hk _ => hb.block k hk⟩ (fun r hr => by cases hr)
set_option maxHeartbeats 4000000 in
set_option maxRecDepth 100000 in
theorem all_stops (W0 : World) (n0 B : Nat) (hn0 : n0 = W0.heap.size) (hB : n0 ≤ B) (bx : List Nat) (hbx : ∀ b ∈ bx, b < B) (nb : Nat) (T : AT) (w : World) (hT : AtT W0 T) (hlow : Below n0 W0 w) (hBw : B ≤ w.heap.size) (hnb : w.heap[nb]? = some (.cells #[.int .u8 T.k, .int .u8 T.w, .int .i64 T.wd, .slice T.A T.kids.length T.c] 27 (0, 0))) :
  SeqStopsO Try.prog 74 #[.pointer (some ⟨nb, 0, none⟩)] (fun x : Told W0 => #[seenV x.1]) (Kp n0 B bx) (Valid bx) (fun ys => ys.map (·.1) = T.all) (fun pre => pre.map (·.1) <+: T.all) w := by
 intro n l J Jx W hW hJ hJx hJV hY h0
 have hnbW := zaU hnb hW; have hlowW : Below n0 W0 W := hlow.trans (hW.mono (by rw [hn0]; have := hlow.size; exact this))
 have hBW : B ≤ W.heap.size := Nat.le_trans hBw hW.size; obtain ⟨W1, hW1⟩ : ∃ W1, W1 = W.alloc (.cells #[.func (.yield l) #[] #[]] 127) := ⟨_, rfl⟩; have hb1 : Below W.heap.size W W1 := by rw [hW1]; exact zad (Below.refl _ _) _
 have hyb : W1.heap[W.heap.size]? = some (one1 (.func (.yield l) #[] #[]) 127) := by rw [hW1]; exact heap_alloc_new W _
 have hnb1 := zaU hnbW hb1; have hT1 : AtT W1 T := AtT.below ((hn0 ▸ hlowW : Below W0.heap.size W0 W).trans (hb1.mono (by have := (hn0 ▸ hlowW : Below W0.heap.size W0 W).size; exact this))) T hT
 have hC := C_of_AT _ T (Nat.lt_succ_self _) W1 hT1; obtain ⟨k, w1, wd, A, c, kids⟩ := T; simp only [AT.k, AT.w, AT.wd, AT.A, AT.c, AT.kids] at hnb1 hC ⊢; have hle : (zbN kids).length ≤ c := by rw [zbl]; simp only [AtT] at hT; exact hT.1
 have hright := tree_Right.calls k w1 wd A c (zbN kids) (okB ⟨k, w1, wd, zbN kids⟩) W1 (by rw [zbl]; exact hC) hle (right_prog _ _ _ _)
 rw [zbl] at hright; have HRIGHT := zaa.mk hright; have HYB := zaa.mk hyb; have HNB := zaa.mk hnb1; have HJ0 := zaa.mk (abides_below hJ [] W W1 h0 hb1); have HB1 := zaa.mk hb1; have HT := zaa.mk hT; have k0 := zae hnbW 0; have k1 := zae hnbW 1; have k2 := zae hnbW 2; have k3 := zae hnbW 3; simp [AT.k, AT.w, AT.wd, AT.A, AT.c, AT.kids] at k0 k1 k2 k3; have hlt := zaM hnbW; have hu := Try.underlying27; clear hright hyb hnb1 hb1 hC hT1 hnb hnbW; refine callsIn_of_wp Try.func74 rfl trivial ?_ rfl
 simp only [Try.ntmps74, List.size_toArray, List.length_cons, List.length_nil, Nat.reduceAdd, Nat.reduceSub, Array.replicate_succ, Array.replicate_zero, List.push_toArray, List.append_toArray, List.nil_append, List.cons_append]
 gi_wp2
 refine ⟨trivial, fun h => (by cases h), ?_⟩
 rw [← hW1]; refine (callsIn_wide.2 HRIGHT.out).mono ?_
 rintro e W2 ⟨rfl, hb2⟩
 have HYB2 := zaa.mk (zaU HYB.out hb2); have hnb2 := zaU HNB.out hb2; have HJ2 := zaa.mk (hJ _ _ _ none HJ0.out ⟨hb2.os, hb2.tape, hb2.output, hb2.size, fun k hk _ => hb2.block k hk⟩ (fun r hr => by cases hr))
 have HB2 := zaa.mk (zan HB1.out hb2); have hlt2 := zaM hnb2; have hyb2 := zaM HYB2.out; clear hb2 HYB HNB HJ0 HB1 HRIGHT hW1 k0 k1 k2 k3 hlt; cases hok : okB ⟨k, w1, wd, zbN kids⟩ with
 | false =>
  gi_wp2
  refine bodyPost_ret (results_none rfl _ _ _) rfl ?_
  exact ⟨⟨_, rfl⟩, .inl ⟨[], by rw [AT.all, AT.erase, hok]; rfl, HJ2.out⟩⟩
 | true =>
  have k0 := zae hnb2 0; have k1 := zae hnb2 1; have k2 := zae hnb2 2; have k3 := zae hnb2 3; simp at k0 k1 k2 k3; have hall : (AT.node k w1 wd A c kids).all = (AT.node k w1 wd A c kids).pre 0 0 := by rw [AT.all, AT.erase, hok, if_pos rfl]
  rw [hall] at hY; obtain ⟨W3, hW3⟩ : ∃ W3, W3 = W2.alloc (.cells #[downV W.heap.size W2.heap.size] 128) := ⟨_, rfl⟩; have hb3 : Below W2.heap.size W2 W3 := by rw [hW3]; exact zad (Below.refl _ _) _
  have hdb : W3.heap[W2.heap.size]? = some (one1 (downV W.heap.size W2.heap.size) 128) := by rw [hW3]; exact heap_alloc_new W2 _
  have hcall := down_in W0 n0 B bx l _ J Jx hn0 hB hbx hJV (fun s W W' _ h hb => abides_below hJ s W W' h hb) hY _ (.node k w1 wd A c kids) (Nat.lt_succ_self _) HT.out 0 0 (n - 1) [] W3 W.heap.size W2.heap.size
   (hlowW.trans ((zan HB2.out hb3).mono (by rw [hn0]; have := hlowW.size; omega))) (by have := HB2.out.size; have := hb3.size; omega) hBW (by have := HB2.out.size; omega) (fun hf => by have h1 := fr.below hbx (by have := HB2.out.size; omega) hb3 hf; have h2 := hJV _ _ h0 _ (fr.below hbx hBW HB2.out h1); omega) (fun hf => by have h1 := fr.below hbx (by have := HB2.out.size; omega) hb3 hf; have h2 := hJV _ _ HJ2.out _ h1; omega) (zaU HYB2.out hb3) hdb (abides_below hJ [] W2 W3 HJ2.out hb3) (fun ys hy => by rw [List.nil_append]; exact hy)
  simp only [AT.val, AT.k, AT.w, AT.wd, AT.A, AT.c, AT.kids, List.nil_append] at hcall; have HCALL := zaa.mk hcall; clear hcall hnb2 hb3 hdb
  gi_wp2
  refine ⟨trivial, fun h => (by cases h), ?_⟩
  change CallsIn Fence.wide (n - 1) Try.prog 75 _ (W2.alloc (.cells #[downV W.heap.size W2.heap.size] 128)) _
  rw [← hW3]; refine HCALL.out.mono ?_
  clear HCALL k0 k1 k2 k3 hW3; rintro e W4 (⟨rfl, _, _, zs, hz, hj⟩ | ⟨rfl, zs, hz, hx⟩)
  ·gi_wp2
   go_end0
   exact ⟨⟨_, rfl⟩, .inl ⟨zs, by rw [hall]; exact hz, hj⟩⟩
  ·gi_wp2
   go_end0
   exact ⟨⟨_, rfl⟩, .inr ⟨zs, by rw [hall]; exact hz, hx⟩⟩
end
end Go.Proofs.Ytghbfjmmjfklfaa.H
namespace Go.Proofs.Ytghbfjmmjfklfaa.H
open Go.RowKit Go.Proofs.YtghbfjmmjfklfaaW.PrintWords Go.Proofs.YtghbfjmmjfklfaaW.PrintLast Go.Proofs.YtghbfjmmjfklfaaW.PrintMore
def er (x : AT × Int × Int) : S27 × Int × Int := (x.1.erase, x.2)
mutual
theorem er_pre : ∀ (T : AT) (f d : Int), (T.pre f d).map er = preT T.erase f d
 | .node k w wd A c kids, f, d => by simp only [AT.pre, AT.erase, preT, List.map_cons, er_preL kids f d, er]
theorem er_preL : ∀ (l : List AT) (f d : Int), (preL l f d).map er = preTL (zbN l) f d
 | [], f, d => by simp only [preL, zbN, preTL, List.map_nil]
 | T :: r, f, d => by
  have : T.erase.f2 = T.wd := by rw [erase_f]
  simp only [preL, zbN, preTL, List.map_append, er_pre T, er_preL r, this]
end
def allT (t : S27) : List (S27 × Int × Int) := if okB t then preT t 0 0 else []
theorem er_all (T : AT) : T.all.map er = allT T.erase := by
 unfold AT.all allT
 split
 ·exact er_pre T 0 0
 ·rfl
theorem allT_length (t : S27) : (allT t).length ≤ tsize t := by
 unfold allT
 split
 ·rw [preT_length]; exact Nat.le_refl _
 ·exact Nat.zero_le _
theorem all_length (T : AT) : T.all.length ≤ tsize T.erase := by
 rw [← List.length_map (f := er), er_all]; exact allT_length _
end Go.Proofs.Ytghbfjmmjfklfaa.H
namespace Go.Proofs.Ytghbfjmmjfklfaa.H
open Go.RowKit Go.Shelf Go.Proofs.YtghbfjmmjfklfaaW.PrintWords Go.Proofs.YtghbfjmmjfklfaaW.PrintLast Go.Proofs.YtghbfjmmjfklfaaW.PrintMore
section
attribute [local go_sem] Oper.semAt_some
abbrev boxN (k w wd : Int) (A : Option Addr) (n c : Nat) : Obj := .cells #[.int .u8 k, .int .u8 w, .int .i64 wd, .slice A n c] 27 (0, 0)
set_option maxHeartbeats 1000000 in
theorem all_in (n : Nat) (k w1 wd : Int) (A : Option Addr) (m c : Nat) (w : World) :
  CallsIn Fence.wide n Try.prog 67 #[.agg #[.int .u8 k, .int .u8 w1, .int .i64 wd, .slice A m c]] w fun e w' => e = .returned (.func (.func 74) #[] #[.pointer (some ⟨w.heap.size, 0, none⟩)]) ∧ w' = w.alloc (boxN k w1 wd A m c) := by
 refine callsIn_of_wp Try.func67 rfl trivial ?_ rfl
 simp only [Try.ntmps67, List.size_toArray, List.length_cons, List.length_nil, Nat.reduceAdd, Nat.reduceSub, Array.replicate_succ, Array.replicate_zero, List.push_toArray, List.append_toArray, List.nil_append, List.cons_append]
 gi_wp2
 go_ret
 exact ⟨rfl, rfl⟩
theorem OwnFrom.le {β : Type} {B C : Nat} {I : β → World → Prop} (h : OwnFrom B I) (hBC : B ≤ C) : OwnFrom C I := fun s W W' row hs hg hr => h s W W' row hs hg (fun r e => ⟨by have := (hr r e).1; omega, (hr r e).2⟩)
theorem Kp.le {n0 B C : Nat} {bx : List Nat} {W W' : World} (h : Kp n0 B bx W W') (hBC : B ≤ C) : Kp n0 C bx W W' := ⟨h.low, fun k cs t fz hk hn hc => h.high k cs t fz (by omega) hn hc, h.own, fun k o hk ho hc => h.rest k o (by omega) ho hc⟩
theorem own_cells {β : Type} {B : Nat} {k : Nat} {cs : Array Value} {t : TypeId} {fz : Nat × Nat} : OwnFrom B (fun (_ : β) W => W.heap[k]? = some (.cells cs t fz)) := fun s W W' row hs hg hr =>
 (hg.block k (zaM hs) (fun e => by obtain ⟨_, o, ho, hc⟩ := hr k e.symm; rw [hs] at ho; cases ho; cases hc)).trans hs
theorem wp_append_run {P : Program} {w w' : World} {o : Oper} {a : Act} {K : Act → World → Prop} {Q : Exit → Act → World → Prop} {v' : Value} {b : Bool} {R : Prop} (hb : b = true) (s x : Operand) (t : TypeId)
  (hop : o.op = Op.call { callee := Callee.builtin Builtin.append, args := #[s, x], argTypes := #[t, t] })
  (hrun : (Builtin.append_ #[t, t] o.type #[a.eval s, a.eval x]).run P w = .ok v' w') (hK : K (a.put o.dst v') w') : if b = true then Oper.wp P o a w K Q else R := by
 rw [if_pos hb]; unfold Oper.wp execOp
 simp only [hop, resolve, invoke, builtin, Sem.run_bind, Sem.run_pure, Result.andThen_ok, List.map_toArray, List.map_cons, List.map_nil, hrun]; exact hK
def leavesA (xs : List (AT × Int × Int)) : List S27 := (xs.filter fun x => decide (x.1.k ≤ 50)).map fun x => ⟨x.1.k, x.1.w, x.1.wd, []⟩
theorem leavesA_snoc (xs : List (AT × Int × Int)) (x : AT × Int × Int) : leavesA (xs ++ [x]) = leavesA xs ++ (if x.1.k ≤ 50 then [⟨x.1.k, x.1.w, x.1.wd, []⟩] else []) := by
 unfold leavesA
 rw [List.filter_append, List.map_append]
 congr 1
 by_cases h : x.1.k ≤ 50 <;> simp [h]
theorem own_R {α : Type} {d : Kd α} {e base B : Nat} {ok : Nat → Prop} {v : Value} {xs : List α} {X X' : World} {row : Option Nat} (h : d.R e X base ok v xs) (hg : X.grownBy X' row) (hr : ∀ r, row = some r → B ≤ r ∧ ∃ o : Obj, X.heap[r]? = some o ∧ o.isCells = false) : d.R e X' base ok v xs :=
 Kd.R_mono (Kd.R_step (Kd.R_bound h) (fun k hk hlt => hg.block k hlt (fun he => by
  obtain ⟨_, _, _, q, _, cells, hc⟩ := hk; obtain ⟨_, o, ho, hn⟩ := hr k he.symm; rw [hc] at ho; cases ho; cases hn))) (fun _ hk => hk.1)
theorem leavesA_length (xs : List (AT × Int × Int)) : (leavesA xs).length ≤ xs.length := by
 unfold leavesA
 rw [List.length_map]; exact List.length_filter_le _ _
set_option maxHeartbeats 2000000 in
set_option maxRecDepth 100000 in
theorem leaves_in (T : AT) (w : World) (hT : AtT w T) (hN : T.all.length ≤ 2000000) :
  Calls Try.prog 52 #[.agg #[.int .u8 T.k, .int .u8 T.w, .int .i64 T.wd, .slice T.A T.kids.length T.c]] w fun e w' => ∃ v, e = .returned v ∧ Kd.R k27 27 w' w.heap.size (fun _ => True) v (leavesA T.all) ∧ Below w.heap.size w w' := by
 refine (callsIn_wide (n := 3)).1 ?_
 obtain ⟨W1, hW1⟩ : ∃ W1, W1 = (w.alloc (boxN T.k T.w T.wd T.A T.kids.length T.c)).alloc (.cells #[.slice none 0 0] 25) := ⟨_, rfl⟩; have hs1 : W1.heap.size = w.heap.size + 2 := by rw [hW1]; simp
 have hb1 : Below w.heap.size w W1 := by rw [hW1]; exact Below.alloc (zad (Below.refl _ _) _) (by simp) _
 have hob : W1.heap[w.heap.size + 1]? = some (.cells #[.slice none 0 0] 25 (0, 0)) := by
  rw [hW1]; have := heap_alloc_new (w.alloc (boxN T.k T.w T.wd T.A T.kids.length T.c)) (.cells #[.slice none 0 0] 25)
  simpa using this
 obtain ⟨W2, hW2⟩ : ∃ W2, W2 = W1.alloc (boxN T.k T.w T.wd T.A T.kids.length T.c) := ⟨_, rfl⟩; have hb2 : Below W1.heap.size W1 W2 := by rw [hW2]; exact zad (Below.refl _ _) _
 have hnb2 : W2.heap[W1.heap.size]? = some (boxN T.k T.w T.wd T.A T.kids.length T.c) := by rw [hW2]; exact heap_alloc_new W1 _
 have hs2 : W2.heap.size = w.heap.size + 3 := by rw [hW2, World.size_alloc, hs1]
 have hu := Try.underlying27; have HS1 := zaa.mk hs1; have HS2 := zaa.mk hs2; have HB2 := zaa.mk (zan hb1 hb2); have HNB := zaa.mk hnb2; have HOB := zaa.mk (zaU hob hb2); clear hs1 hs2 hnb2 hob hb1 hb2; refine callsIn_of_wp_marks Try.func52 rfl trivial ?_ rfl
 simp only [Try.ntmps52, List.size_toArray, List.length_cons, List.length_nil, Nat.reduceAdd, Nat.reduceSub, Array.replicate_succ, Array.replicate_zero, List.push_toArray, List.append_toArray, List.nil_append, List.cons_append]
 gi_wp2
 refine ⟨trivial, ?_⟩
 change CallsIn Fence.wide 2 Try.prog 67 _ ((w.alloc (boxN T.k T.w T.wd T.A T.kids.length T.c)).alloc (.cells #[.slice none 0 0] 25)) _
 rw [← hW1]; refine (all_in _ _ _ _ _ _ _ _).mono ?_
 rintro e w' ⟨rfl, rfl⟩
 rw [← hW2]; clear hW1 hW2
 gi_wp2
 have hbx : ∀ b ∈ [w.heap.size + 1], b < W2.heap.size := fun b hb => by rw [List.mem_singleton] at hb; have := HS2.out; omega
 have hIV : ∀ X : World, (∃ v, X.heap[w.heap.size + 1]? = some (.cells #[v] 25 (0, 0)) ∧ ∀ k, v.ownBlock = some k → k < X.heap.size) → Valid [w.heap.size + 1] X := by
  rintro X ⟨v, hv, hl⟩ k ⟨b, hb, u, hu', ho⟩
  rw [List.mem_singleton] at hb; subst hb; rw [zae hv 0] at hu'; simp at hu'; subst hu'; exact hl k ho
 refine rangeO (w := W2) (gf := 74) (lb := #[.pointer (some ⟨W1.heap.size, 0, none⟩)]) rfl (enters_of Try.func74 (by kernel_rfl) rfl)
  (all_stops w w.heap.size W2.heap.size rfl (by have := HS2.out; omega) [w.heap.size + 1] hbx W1.heap.size T W2 hT HB2.out (Nat.le_refl _) HNB.out)
  (fun h k => Kp.trans h k) (fun W o o' h hc => Kp.record hbx (by have := HS2.out; omega) W o o' h hc) (Below.refl _ _) (fun _ => rfl)
  (fun pre X => (∃ v, X.heap[w.heap.size + 1]? = some (.cells #[v] 25 (0, 0)) ∧ Kd.R k27 27 X w.heap.size (fun k => k ≠ w.heap.size + 1) v (leavesA (pre.map (·.1)))) ∧ Below w.heap.size w X ∧ W2.heap.size ≤ X.heap.size)
  (fun c pre X => False)
  (fun s A B row hs hg hr => by
   obtain ⟨⟨v, h1, h2⟩, h3, h4⟩ := hs; exact ⟨⟨v, own_cells s A B row h1 hg hr, own_R h2 hg hr⟩, h3.grown hg h3.size (fun k hk => by have := (hr k hk).1; have := HS2.out; omega), Nat.le_trans h4 hg.size⟩)
  (fun c s A B row hs hg hr => hs)
  (fun pre X h => by
   obtain ⟨⟨v, h1, h2⟩, h3, h4⟩ := h; exact hIV X ⟨v, h1, Kd.R_lt h2⟩)
  (fun Wq hbq _ => ⟨⟨_, zaU HOB.out hbq, Kd.R_nil _ _ _ _ _⟩, zan HB2.out hbq, hbq.size⟩)
  (fun x a' Ws X => ∃ b, Ws.heap.size ≤ b ∧ W2.heap.size ≤ b ∧ X.heap[b]? = some (.cells #[.int .u8 x.1.1.k, .int .u8 x.1.1.w, .int .i64 x.1.1.wd, .slice x.1.1.A x.1.1.kids.length x.1.1.c, .int .i64 x.1.2.1, .int .i64 (wrap64 (x.1.2.1 + x.1.1.wd)), .int .i64 x.1.2.2] 119 (0, 0)) ∧
   a' = { tmps := #[.agg #[.int .u8 T.k, .int .u8 T.w, .int .i64 T.wd, .slice T.A T.kids.length T.c], .pointer (some ⟨w.heap.size, 0, none⟩), .slice none 0 0, .pointer (some ⟨w.heap.size + 1, 0, none⟩), .pointer (some ⟨b, 0, none⟩), .agg #[.int .u8 T.k, .int .u8 T.w, .int .i64 T.wd, .slice T.A T.kids.length T.c], .func (.func 74) #[] #[.pointer (some ⟨W1.heap.size, 0, none⟩)], seenV x.1, undef, undef, undef, undef, undef, undef, undef, undef, undef, undef, undef, undef, undef, undef], defers := [] })
  (fun x a' Ws s A B row hs hg hr => by
   obtain ⟨b, h0, h1, h2, h3⟩ := hs; exact ⟨b, h0, h1, own_cells () A B row h2 hg hr, h3⟩) ?assign ?body ?done ?stop
 case assign =>
  intro l' pre x X C hlt' hi hC
  simp only [seenV]; have hup : Below X.heap.size X (X.alloc (.cells #[.int .u8 x.1.1.k, .int .u8 x.1.1.w, .int .i64 x.1.1.wd, .slice x.1.1.A x.1.1.kids.length x.1.1.c, .int .i64 x.1.2.1, .int .i64 (wrap64 (x.1.2.1 + x.1.1.wd)), .int .i64 x.1.2.2] 119)) := zad (Below.refl _ _) _; have HUP := zaa.mk hup; have HI := zaa.mk hi; have HC := zaa.mk hC; clear hup hi hC
  gi_wp2
  obtain ⟨⟨v, h1, h2⟩, h3, h4⟩ := HI.out; refine HC.out _ _ ⟨HUP.out.size, fun k o _ ho _ => (HUP.out.block k (Array.getElem?_eq_some_iff.1 ho).1).trans ho⟩ (Kp.of_below hbx h3.size (by omega) HUP.out) ⟨⟨v, zaU h1 HUP.out, Kd.zbE h2 HUP.out⟩, zan h3 HUP.out, Nat.le_trans h4 HUP.out.size⟩ ⟨X.heap.size, Nat.le_refl _, h4, heap_alloc_new X _, rfl⟩
 case body =>
  rintro l' pre x a' Xs X hsX _ ⟨⟨v, hov, hrow⟩, hlow, hsz⟩ hKX ⟨b, hbs, hb, hblk, rfl⟩ hpre
  have hlen : pre.length < T.all.length := by
   have := List.IsPrefix.length_le hpre; simp only [List.length_map, List.length_append, List.length_singleton] at this; omega
  clear hpre; have q0 := zae hblk 0; have q1 := zae hblk 1; have q2 := zae hblk 2; have q3 := zae hblk 3; simp at q0 q1 q2 q3; have hus := Try.underlying119; simp only [seenV]; by_cases c1 : x.1.1.k ≤ 50
  ·have d1 : decide (x.1.1.k ≤ 50) = true := decide_eq_true c1
   have hf3 := zab hblk 3; have HROW := zaa.mk hrow; have HBLK := zaa.mk hblk; have HOV := zaa.mk hov; clear hrow hblk hov; have ko := zae HOV.out 0; have kof := zab HOV.out 0; simp at ko; obtain ⟨Av, cv, rfl⟩ := Kd.zbO HROW.out; obtain ⟨X1, hX1⟩ : ∃ X1, X1 = X.setCell ⟨b, 3, none⟩ (.slice none 0 0) := ⟨_, rfl⟩; obtain ⟨L, hL⟩ : ∃ L, L = leavesA (pre.map (·.1)) := ⟨_, rfl⟩; rw [← hL] at HROW ko HOV; obtain ⟨n, hn⟩ : ∃ n, n = L.length := ⟨_, rfl⟩; rw [← hn] at HROW ko HOV; have hln : L.length ≤ 2000000 := by
    have := leavesA_length (pre.map (·.1)); rw [List.length_map] at this; rw [hL]; omega
   have hneb : w.heap.size + 1 ≠ b := by have := HS2.out; omega
   have hblk1 : X1.heap[b]? = some (.cells #[.int .u8 x.1.1.k, .int .u8 x.1.1.w, .int .i64 x.1.1.wd, .slice none 0 0, .int .i64 x.1.2.1, .int .i64 (wrap64 (x.1.2.1 + x.1.1.wd)), .int .i64 x.1.2.2] 119 (0, 0)) := by rw [hX1]; exact zbs HBLK.out 3 _
   have hov1 : X1.heap[w.heap.size + 1]? = some (.cells #[.slice Av n cv] 25 (0, 0)) := by rw [hX1]; exact zbJ HOV.out hneb _
   have hrow1 : Kd.R k27 27 X1 w.heap.size (fun k => k ≠ w.heap.size + 1) (.slice Av n cv) L := by rw [hX1]; exact Kd.R_set HROW.out HBLK.out (fun q hq => by have h : q ∈ [27, 27] := hq; simp at h; omega) 3 _
   have hs1 : X1.heap.size = X.heap.size := by rw [hX1]; simp
   have hlow1 : Below w.heap.size w X1 := by rw [hX1]; exact hlow.setCell (show w.heap.size ≤ b by have := HS2.out; omega) _
   have hoth1 : ∀ q, q ≠ b → X1.heap[q]? = X.heap[q]? := fun q hq => by rw [hX1]; exact Below.heap_setCell _ _ _ _ hq
   obtain ⟨g, cap, w1, hrun, hgX, hgo, hbg, ⟨cur, hcur, hcsz⟩, z0, z1, z2, z3, hfin⟩ := append_node hrow1 hlow1.size (fun k hk => by have := HS2.out; omega) hln x.1.1.k x.1.1.w x.1.1.wd
   have hrun2 : (Builtin.append_ #[25, 25] 25 #[.slice Av n cv, .slice (some ⟨X1.heap.size, 0, none⟩) 1 1]).run Try.prog ((X1.alloc (.cells #[.int .u8 0, .int .u8 0, .int .i64 0, .slice none 0 0] 27)).drew) = .ok (.slice (some ⟨g, 0, none⟩) (n + 1) cap) w1 := hrun; clear hrun; have hgne : g ≠ w.heap.size + 1 := by
    rcases hgo with h | h
    ·exact hrow1.1 g h
    ·have := HS2.out; omega
   have hov2 : w1.heap[w.heap.size + 1]? = some (.cells #[.slice Av n cv] 25 (0, 0)) := (hgX.block _ (zaM hov1) (fun e => hrow1.1 _ e.symm rfl)).trans hov1
   have HX1 := zaa.mk hX1; have HLL := zaa.mk hL; have HNN := zaa.mk hn; have HSS := zaa.mk hs1; clear hX1 hL hn hs1
   gi_wp2
   rw [← HX1.out]; have r0 := zae hblk1 0; have r1 := zae hblk1 1; have r2 := zae hblk1 2; have r3 := zae hblk1 3; have r4 := zae hov1 0; have r4f := zab hov1 0; have rb := zaM hblk1; have ro := zaM hov1; have hwo := zae hov2 0; simp at r0 r1 r2 r3 r4 hwo; have hwf : ∀ j, w1.frozen? ⟨g, j, none⟩ = false := fun j => zab hcur j
   have hwof := zab hov2 0; have hlq : (n : Int) < (n : Int) + 1 := by omega
   have hmix : Try.prog.follows .mixedOrders = true := by kernel_rfl
   obtain ⟨cur', hcur'⟩ : ∃ cur', cur' = ((((cur.setIfInBounds (n * 4) (.int .u8 x.1.1.k)).setIfInBounds (n * 4 + 1) (.int .u8 x.1.1.w)).setIfInBounds (n * 4 + 2) (.int .i64 x.1.1.wd)).setIfInBounds (n * 4 + 3) (.slice none 0 0)) := ⟨_, rfl⟩; have hset : (w1.setCells g (n * 4) [.int .u8 x.1.1.k, .int .u8 x.1.1.w, .int .i64 x.1.1.wd, .slice none 0 0]).heap[g]? = some (.cells cur' 27 (0, 0)) := by
    rw [hcur']; exact zbs (zbs (zbs (zbs hcur _ _) _ _) _ _) _ _
   have e1 : leavesA ((pre ++ [x]).map (·.1)) = L ++ [⟨x.1.1.k, x.1.1.w, x.1.1.wd, []⟩] := by rw [List.map_append, List.map_singleton, leavesA_snoc, if_pos c1, HLL.out]
   have fin : ∀ W' : World, W'.os = w1.os → W'.tape = w1.tape → W'.output = w1.output → W'.heap.size = w1.heap.size → (∀ q, q ≠ g → q ≠ w.heap.size + 1 → W'.heap[q]? = w1.heap[q]?) → W'.heap[g]? = some (.cells cur' 27 (0, 0)) → W'.heap[w.heap.size + 1]? = some (.cells #[.slice (some ⟨g, 0, none⟩) (n + 1) cap] 25 (0, 0)) →
     KeepsFrom W2.heap.size X W' ∧ Kp w.heap.size W2.heap.size [w.heap.size + 1] Xs W' ∧ (∃ v, W'.heap[w.heap.size + 1]? = some (.cells #[v] 25 (0, 0)) ∧ Kd.R k27 27 W' w.heap.size (fun k => k ≠ w.heap.size + 1) v (leavesA ((pre ++ [x]).map (·.1)))) ∧ Below w.heap.size w W' ∧ W2.heap.size ≤ W'.heap.size := by
    intro W' e1' e2' e3' hsz' hoth hg' ho'
    have hs2 := HS2.out; have hgsz := hgX.size; have hss := HSS.out; have hown : ∀ k, (Value.slice Av n cv).ownBlock = some k → ∃ cells, X.heap[k]? = some (.cells cells 27 (0, 0)) := fun k hk => by
     obtain ⟨_, _, _, q, hq, cells, hc⟩ := (Kd.R_bound HROW.out).1 k hk; have h : q ∈ [27, 27] := hq; simp at h; subst h; exact ⟨cells, hc⟩
    have hgen : ∀ k o, X.heap[k]? = some o → k ≠ b → (Value.slice Av n cv).ownBlock ≠ some k → k ≠ w.heap.size + 1 → W'.heap[k]? = some o := fun k o hk hkb hko hkv => by
     have hlt : k < X.heap.size := (Array.getElem?_eq_some_iff.1 hk).1; have hkg : k ≠ g := fun e => by
      subst e; rcases hgo with h | h
      ·exact hko h
      ·omega
     rw [hoth k hkg hkv, hgX.block k (by omega) (fun e => hko e.symm), hoth1 k hkb, hk]
    have hnc : ∀ k o, W2.heap.size ≤ k → o.isCells = false → X.heap[k]? = some o → W'.heap[k]? = some o := fun k o hk hc ho => by
     refine hgen k o ho (fun e => ?_) (fun e => ?_) (by omega)
     ·subst e
      rw [HBLK.out] at ho; cases ho; cases hc
     ·obtain ⟨cells, h⟩ := hown k e
      rw [h] at ho; cases ho; cases hc
    have hfrX : ∀ k, (Value.slice Av n cv).ownBlock = some k → fr [w.heap.size + 1] X k := fun k hk => ⟨_, List.mem_singleton.2 rfl, _, ko, hk⟩
    have hbX : Below w.heap.size X W' := by
     have h1 : Below w.heap.size X X1 := by rw [HX1.out]; exact (Below.refl _ _).setCell (show w.heap.size ≤ b by omega) _
     have h2 : Below w.heap.size X w1 := h1.grown hgX (by have := hlow.size; omega) (fun k hk => ((Kd.R_bound hrow1).1 k hk).2.1)
     refine ⟨e1'.trans h2.os, e2'.trans h2.tape, e3'.trans h2.output, by have := h2.size; omega, fun k hk => ?_⟩
     rw [hoth k (by omega) (by omega)]
     exact h2.block k hk
    refine ⟨⟨by omega, fun k o hk ho hc => hnc k o hk hc ho⟩, ⟨hKX.low.trans hbX, fun k cs t fz hk hnf hcs => ?_, fun k hf => ?_, fun k o hk hc ho => hnc k o (by omega) hc (hKX.rest k o hk hc ho)⟩, ⟨_, ho', ?_⟩, hlow.trans hbX, by omega⟩
    ·have hlt := zaM hcs
     have h1 := hKX.high k cs t fz hk hnf hcs; exact hgen k _ h1 (by omega) (fun e => hKX.notfr hlt hnf (hfrX k e)) (by omega)
    ·obtain ⟨q, hq, u, hu', ho⟩ := hf
     rw [List.mem_singleton] at hq; subst hq; rw [zae ho' 0] at hu'; simp at hu'; subst hu'; simp only [Value.ownBlock, Option.some.injEq] at ho; subst ho; rcases hgo with h | h
     ·exact hKX.own g (hfrX g h)
     ·exact .inr (by have := hKX.low.size; omega)
    ·rw [e1]
     refine Kd.R_step hfin (fun k hk hlt => ?_)
     by_cases e : k = g
     ·rw [e, hg', hset]
     ·rw [hoth k e hk]
      exact ((((Below.heap_setCell _ _ _ _ e).trans (Below.heap_setCell _ _ _ _ e)).trans (Below.heap_setCell _ _ _ _ e)).trans (Below.heap_setCell _ _ _ _ e)).symm
   have FIN := zaa.mk fin; have HSET := zaa.mk (show ((((w1.setCell ⟨g, n * 4, none⟩ (.int .u8 x.1.1.k)).setCell ⟨g, n * 4 + 1, none⟩ (.int .u8 x.1.1.w)).setCell ⟨g, n * 4 + 2, none⟩ (.int .i64 x.1.1.wd)).setCell ⟨g, n * 4 + 3, none⟩ (.slice none 0 0)).heap[g]? = some (.cells cur' 27 (0, 0)) by
    rw [hcur']; exact zbs (zbs (zbs (zbs hcur _ _) _ _) _ _) _ _)
   have HCUR := zaa.mk hcur; have HOV2 := zaa.mk hov2; clear fin hcur hset e1 hfin hgX hov1 hov2 hblk1 HS1 HS2 HB2 HNB HOB hIV hbx HROW HOV HBLK HX1 HLL HNN HSS hrow1 hlow1 hoth1 hgo hcsz hbg hlow hsz hKX hln hneb; refine round_need [0, 1, 2, 3, 4] (fun W' => W'.cell? ⟨b, 0, none⟩ = some (.int .u8 x.1.1.k) ∧ W'.cell? ⟨b, 1, none⟩ = some (.int .u8 x.1.1.w) ∧ W'.cell? ⟨b, 2, none⟩ = some (.int .i64 x.1.1.wd) ∧ W'.cell? ⟨b, 3, none⟩ = some (.slice none 0 0) ∧ W'.cell? ⟨w.heap.size + 1, 0, none⟩ = some (.slice Av n cv)) hmix (by kernel_rfl) (fun ⟨_, _, h⟩ => h) ?_
   have hS := zaa.mk (And.intro r0 (And.intro r1 (And.intro r2 (And.intro r3 r4)))); clear q0 q1 q2 q3 ko kof hf3 r0 r1 r2 r3 r4; refine wpAnyN_take (i := 0) (v := ?v0) rfl (by kernel_rfl) (by kernel_rfl) (by kernel_rfl) (by kernel_rfl) (fun _ _ _ h => h) (.inl ⟨by rfl, ?y0⟩) hS.out ?_
   case y0 => (intro W' hW'; obtain ⟨s0, s1, s2, s3, s4⟩ := hW'; go_simp; try rfl)
   simp only [Act.put, zav]; refine wpAnyN_take (i := 1) (v := ?v1) rfl (by kernel_rfl) (by kernel_rfl) (by kernel_rfl) (by kernel_rfl) (fun _ _ _ h => h) (.inl ⟨by rfl, ?y1⟩) hS.out ?_
   case y1 => (intro W' hW'; obtain ⟨s0, s1, s2, s3, s4⟩ := hW'; go_simp; try rfl)
   simp only [Act.put, zav]; refine wpAnyN_take (i := 2) (v := ?v2) rfl (by kernel_rfl) (by kernel_rfl) (by kernel_rfl) (by kernel_rfl) (fun _ _ _ h => h) (.inl ⟨by rfl, ?y2⟩) hS.out ?_
   case y2 => (intro W' hW'; obtain ⟨s0, s1, s2, s3, s4⟩ := hW'; go_simp; try rfl)
   simp only [Act.put, zav]; refine wpAnyN_take (i := 3) (v := ?v3) rfl (by kernel_rfl) (by kernel_rfl) (by kernel_rfl) (by kernel_rfl) (fun _ _ _ h => h) (.inl ⟨by rfl, ?y3⟩) hS.out ?_
   case y3 => (intro W' hW'; obtain ⟨s0, s1, s2, s3, s4⟩ := hW'; go_simp; try rfl)
   simp only [Act.put, zav]; refine zaX (i := 4) rfl (by kernel_rfl) (fun K hK => ?_)
   go_simp
   refine hK.out _ _ (fun _ => ?_) (fun _ => ?_)
   ·obtain ⟨r0, r1, r2, r3, r4⟩ := hS.out
    exact ⟨(World.cell?_alloc_lt _ _ _ rb).trans r0, (World.cell?_alloc_lt _ _ _ rb).trans r1, (World.cell?_alloc_lt _ _ _ rb).trans r2, (World.cell?_alloc_lt _ _ _ rb).trans r3, (World.cell?_alloc_lt _ _ _ ro).trans r4⟩
   clear hK K; refine zaX (i := 5) rfl (by kernel_rfl) (fun K hK => ?_)
   refine wp_append_run (by kernel_rfl) _ _ _ rfl hrun2 ?_
   refine hK.out _ _ (fun h => (by cases h)) (fun _ => ?_)
   simp only [Act.put, zav]; clear hK K; refine wpAnyN_two (i := 6) (j := 8) rfl rfl (by kernel_rfl) (fun K hK => ?_) (fun K hK => ?_)
   ·go_simp
    refine hK.out _ _ (fun h => (by cases h)) (fun _ => ?_)
    clear hK K; refine wpAnyN_two (i := 7) (j := 8) rfl rfl (by kernel_rfl) (fun K hK => ?_) (fun K hK => ?_)
    ·go_simp
     refine hK.out _ _ (fun h => (by cases h)) (fun _ => ?_)
     clear hK K; refine zaX (i := 8) rfl (by kernel_rfl) (fun K hK => ?_)
     go_simp
     refine hK.out _ _ (fun h => (by cases h)) (fun _ => ?_)
     clear hK K; refine zbd (by kernel_rfl) ?_ _
     refine FIN.out _ (by simp [World.setCell]) (by simp [World.setCell]) (by simp [World.setCell]) (by simp) (fun q h1 h2 => by simp [Below.heap_setCell, h1, h2]) ?_ ?_
     ·exact zbJ HSET.out hgne _
     ·exact zbs (zbJ (zbJ (zbJ (zbJ HOV2.out hgne.symm _) hgne.symm _) hgne.symm _) hgne.symm _) 0 _
    ·go_simp
     refine hK.out _ _ (fun h => (by cases h)) (fun _ => ?_)
     clear hK K; refine zaX (i := 7) rfl (by kernel_rfl) (fun K hK => ?_)
     go_simp
     refine hK.out _ _ (fun h => (by cases h)) (fun _ => ?_)
     clear hK K; refine zbd (by kernel_rfl) ?_ _
     refine FIN.out _ (by simp [World.setCell]) (by simp [World.setCell]) (by simp [World.setCell]) (by simp) (fun q h1 h2 => by simp [Below.heap_setCell, h1, h2]) ?_ ?_
     ·(rw [hcur']; exact zbs (zbs (zbs (zbs (zbJ HCUR.out hgne _) _ _) _ _) _ _) _ _)
     ·exact zbJ (zbJ (zbJ (zbJ (zbs HOV2.out 0 _) hgne.symm _) hgne.symm _) hgne.symm _) hgne.symm _
   ·go_simp
    refine hK.out _ _ (fun h => (by cases h)) (fun _ => ?_)
    clear hK K; refine zaX (i := 6) rfl (by kernel_rfl) (fun K hK => ?_)
    go_simp
    refine hK.out _ _ (fun h => (by cases h)) (fun _ => ?_)
    clear hK K; refine zaX (i := 7) rfl (by kernel_rfl) (fun K hK => ?_)
    go_simp
    refine hK.out _ _ (fun h => (by cases h)) (fun _ => ?_)
    clear hK K; refine zbd (by kernel_rfl) ?_ _
    refine FIN.out _ (by simp [World.setCell]) (by simp [World.setCell]) (by simp [World.setCell]) (by simp) (fun q h1 h2 => by simp [Below.heap_setCell, h1, h2]) ?_ ?_
    ·(rw [hcur']; exact zbs (zbs (zbs (zbs (zbJ HCUR.out hgne _) _ _) _ _) _ _) _ _)
    ·exact zbJ (zbJ (zbJ (zbJ (zbs HOV2.out 0 _) hgne.symm _) hgne.symm _) hgne.symm _) hgne.symm _
  ·have d1 : decide (x.1.1.k ≤ 50) = false := decide_eq_false c1
   have HROW := zaa.mk hrow; have HOV := zaa.mk hov; clear hrow hov hblk
   gi_wp2
   have e : leavesA ((pre ++ [x]).map (·.1)) = leavesA (pre.map (·.1)) := by rw [List.map_append, List.map_singleton, leavesA_snoc, if_neg (by omega), List.append_nil]
   exact ⟨KeepsFrom.refl _ _, hKX, ⟨v, HOV.out, by rw [e]; exact HROW.out⟩, hlow, hsz⟩
 case done =>
  rintro xs X hS ⟨⟨v, hov, hrow⟩, hlow, hsz⟩ hD
  have HD := zaa.mk hD; have HROW := zaa.mk hrow; have ko := zae hov 0; simp at ko; clear hD hrow
  gi_wp2
  refine ⟨by simp, .inl ⟨_, _, rfl, run_takeDeferred HD.out, ?_⟩⟩
  refine ⟨_, results_tmp rfl _ _ _, _, rfl, ?_, hlow.trans (below_putObj X _ (by have := HS2.out; omega))⟩
  rw [← hS]; exact Kd.R_mono (own_R (B := 0) HROW.out (grownBy_putObj' X W2.heap.size (.deferred none)) (fun r hr => by cases hr; exact ⟨Nat.zero_le _, _, HD.out, rfl⟩)) (fun _ _ => trivial)
 case stop =>
  rintro c pre X hS hf hD
  exact hf.elim
end
end Go.Proofs.Ytghbfjmmjfklfaa.H
namespace Go.Proofs.Ytghbfjmmjfklfaa.H
open Go.RowKit Go.Proofs.YtghbfjmmjfklfaaW.PrintWords Go.Proofs.YtghbfjmmjfklfaaW.PrintLast Go.Proofs.YtghbfjmmjfklfaaW.PrintMore
def leavesS (xs : List (S27 × Int × Int)) : List S27 := (xs.filter fun x => decide (x.1.f0 ≤ 50)).map fun x => ⟨x.1.f0, x.1.f1, x.1.f2, []⟩
theorem leavesA_er (xs : List (AT × Int × Int)) : leavesA xs = leavesS (xs.map er) := by
 induction xs with
 | nil => rfl
 | cons x r ih =>
  have e0 : x.1.erase.f0 = x.1.k := by rw [erase_f]
  have e1 : x.1.erase.f1 = x.1.w := by rw [erase_f]
  have e2 : x.1.erase.f2 = x.1.wd := by rw [erase_f]
  unfold leavesA leavesS at ih ⊢
  simp only [List.map_cons, List.filter_cons, er, e0]
  split
  ·simp only [List.map_cons, e0, e1, e2]
   rw [ih]
  ·rw [ih]
def zb4.f (a0_0 : Int) (a0_1 : Int) (a0_2 : Int) (l0_3 : List (S27)) : Option (List (S27)) := if tsize ⟨a0_0, a0_1, a0_2, l0_3⟩ ≤ 2000000 then some (leavesS (allT ⟨a0_0, a0_1, a0_2, l0_3⟩)) else none
theorem zb4.calls (a0_0 : Int) (a0_1 : Int) (a0_2 : Int) (A0_3 : Option Addr) (c0_3 : Nat) (l0_3 : List (S27)) (r : List (S27)) (w : World) (hr0_3 : Kd.C k27 w A0_3 l0_3.length l0_3) (hc0_3 : l0_3.length ≤ c0_3) (h : zb4.f a0_0 a0_1 a0_2 l0_3 = some r) :
  Calls Try.prog 52 #[.agg #[.int .u8 a0_0, .int .u8 a0_1, .int .i64 a0_2, .slice A0_3 l0_3.length c0_3]] w fun e w' => ∃ v0_ : Value, e = .returned v0_ ∧ Kd.R k27 27 w' w.heap.size (fun _ => True) v0_ r ∧ Below w.heap.size w w' := by
 unfold zb4.f at h
 by_cases hsz : tsize ⟨a0_0, a0_1, a0_2, l0_3⟩ ≤ 2000000
 case neg => rw [if_neg hsz] at h; cases h
 rw [if_pos hsz] at h; cases h; obtain ⟨kids, he, hT⟩ := exists_AT w _ ⟨a0_0, a0_1, a0_2, l0_3⟩ (Nat.lt_succ_self _) A0_3 c0_3 hc0_3 hr0_3; simp only at he hT; subst he; have hL := leaves_in (.node a0_0 a0_1 a0_2 A0_3 c0_3 kids) w hT (Nat.le_trans (all_length _) (by simpa only [AT.erase] using hsz))
 simp only [AT.k, AT.w, AT.wd, AT.A, AT.c, AT.kids] at hL; rw [leavesA_er, er_all, AT.erase] at hL; rw [zbl]; exact hL
mutual
theorem preT_mem : ∀ (t : S27) (f d : Int) (x : S27 × Int × Int), x ∈ preT t f d → tsize x.1 ≤ tsize t ∧ (goodT t → goodT x.1)
 | ⟨k, w, wd, l⟩, f, d, x, h => by
  simp only [preT, List.mem_cons] at h; rcases h with rfl | h
  ·exact ⟨Nat.le_refl _, fun h => h⟩
  ·have := preTL_mem l f d x h
   exact ⟨by simp only [tsize]; omega, fun hg => this.2 (by simp only [goodT] at hg; exact hg.2.2.2.2)⟩
theorem preTL_mem : ∀ (l : List S27) (f d : Int) (x : S27 × Int × Int), x ∈ preTL l f d → tsize x.1 ≤ lsize l ∧ (goodL l → goodT x.1)
 | [], f, d, x, h => by simp [preTL] at h
 | t :: r, f, d, x, h => by
  simp only [preTL, List.mem_append] at h; rcases h with h | h
  ·have := preT_mem t _ _ x h
   exact ⟨by simp only [lsize]; omega, fun hg => this.2 (by simp only [goodL] at hg; exact hg.1)⟩
  ·have := preTL_mem r _ _ x h
   exact ⟨by simp only [lsize]; omega, fun hg => this.2 (by simp only [goodL] at hg; exact hg.2)⟩
end
theorem allT_mem {t : S27} {x : S27 × Int × Int} (h : x ∈ allT t) : okB t = true ∧ x ∈ preT t 0 0 := by
 unfold allT at h
 cases ho : okB t with
 | true => rw [ho, if_pos rfl] at h; exact ⟨rfl, h⟩
 | false => rw [ho] at h; simp at h
theorem allT_leaf {t : S27} (hb : byteT t) {x : S27 × Int × Int} (h : x ∈ allT t) (hx : x.1.f0 ≤ 50) : x.1.f3 = [] := by
 obtain ⟨ho, h⟩ := allT_mem h; have hg := (preT_mem t 0 0 x h).2 (ok_good t hb ho); obtain ⟨⟨k, w, wd, l⟩, f, d⟩ := x; simp only [goodT] at hg; exact hg.2.1 hx
theorem Ev.all {α β : Type} {g : Nat → α → Option β} {r : α → β} : ∀ (l : List α), (∀ x ∈ l, Ev (fun n => g n x) (r x)) → ∃ K, ∀ k, K ≤ k → ∀ x ∈ l, g k x = some (r x)
 | [], _ => ⟨0, fun _ _ x h => by cases h⟩
 | y :: l, h => by
  obtain ⟨K1, h1⟩ := h y List.mem_cons_self; obtain ⟨K2, h2⟩ := Ev.all l (fun x hx => h x (List.mem_cons_of_mem _ hx))
  refine ⟨max K1 K2, fun k hk x hx => ?_⟩
  rcases List.mem_cons.1 hx with rfl | hx
  ·exact h1 k (by omega)
  ·exact h2 k (by omega) x hx
theorem all_ev (t : S27) (hb : byteT t) (ht : tsize t ≤ 2000000) : Ev (fun m => za7.f m t.f0 t.f1 t.f2 t.f3) ((allT t).map seenS) := by
 have e : (⟨t.f0, t.f1, t.f2, t.f3⟩ : S27) = t := eta27 t; refine Ev.congr (fun m => by unfold za7.f; rfl) (Ev.bind (a := okB t) (f := fun _ (r : Bool) => if r = true then (if tsize ⟨t.f0, t.f1, t.f2, t.f3⟩ ≤ 2000000 then some ((preT ⟨t.f0, t.f1, t.f2, t.f3⟩ 0 0).map seenS) else none) else some []) (by have := right_ref t.f0 t.f1 t.f2 t.f3 (by rw [e]; exact hb); rw [e] at this; exact this) (Ev.const ?_))
 rw [e, if_pos ht]; unfold allT
 cases okB t <;> simp
theorem rd_mid45 (p : List S125) (t : S125) (r : List S125) : zbq (p ++ t :: r) (p.length : Int) = t := by
 simp [zbq]
theorem rleaves_l0 (r : List (S27 × Int × Int)) : ∀ (q : List (S27 × Int × Int)) (out : List S27), q.length + r.length ≤ 2000000 → out.length + r.length ≤ 2000000 →
  Ev (fun m => zaL.l0 m ((q ++ r).map seenS) out (q.length : Int)) (out ++ (r.filter fun x => decide (x.1.f0 ≤ 50)).map (·.1)) := by
 induction r with
 | nil => intro q out h1 h2; exact Ev.step (f := fun _ => some out) (fun m => by rw [zaL.l0, if_neg (by simp)]) (by simpa using Ev.now out)
 | cons x r ih =>
  intro q out h1 h2
  simp only [List.length_cons] at h1 h2; have hr : zbq ((q ++ x :: r).map seenS) (q.length : Int) = seenS x := by
   rw [List.map_append, List.map_cons]; have := rd_mid45 (q.map seenS) (seenS x) (r.map seenS)
   rwa [List.length_map] at this
  have hl : ((q ++ x :: r).map seenS).length = q.length + r.length + 1 := by simp; omega
  have hw : wrap64 ((q.length : Int) + 1) = ((q ++ [x]).length : Int) := by rw [wrap_id (by omega) (by omega)]; simp
  by_cases c : x.1.f0 ≤ 50
  ·have h3 := ih (q ++ [x]) (out ++ [x.1]) (by simp; omega) (by simp; omega)
   have e : out ++ [x.1] ++ (r.filter fun x => decide (x.1.f0 ≤ 50)).map (·.1) = out ++ ((x :: r).filter fun x => decide (x.1.f0 ≤ 50)).map (·.1) := by simp [List.filter_cons, c]
   rw [List.append_assoc q, List.singleton_append, e] at h3; refine Ev.step (fun m => ?_) h3
   rw [zaL.l0, if_pos (by rw [hl]; omega), if_pos (by omega), hr, if_pos (by simpa [seenS] using c), if_pos (by omega), hw]
   simp only [seenS, eta27]
  ·have h3 := ih (q ++ [x]) out (by simp; omega) (by omega)
   have e : out ++ (r.filter fun x => decide (x.1.f0 ≤ 50)).map (·.1) = out ++ ((x :: r).filter fun x => decide (x.1.f0 ≤ 50)).map (·.1) := by simp [List.filter_cons, c]
   rw [List.append_assoc q, List.singleton_append, e] at h3; refine Ev.step (fun m => ?_) h3
   rw [zaL.l0, if_pos (by rw [hl]; omega), if_pos (by omega), hr, if_neg (by simpa [seenS] using c), hw]
theorem leaves_same {t : S27} (hb : byteT t) : ((allT t).filter fun x => decide (x.1.f0 ≤ 50)).map (·.1) = leavesS (allT t) := by
 unfold leavesS
 refine List.map_congr_left fun x hx => ?_
 rw [List.mem_filter, decide_eq_true_eq] at hx; have := allT_leaf hb hx.1 hx.2; rw [← this, eta27]
theorem rleaves_ev (t : S27) (hb : byteT t) (ht : tsize t ≤ 2000000) : Ev (fun m => zaL.f m t.f0 t.f1 t.f2 t.f3) (leavesS (allT t)) := by
 have hl := allT_length t; have := rleaves_l0 (allT t) [] [] (by simp; omega) (by simp; omega)
 rw [List.nil_append, List.nil_append, leaves_same hb] at this; exact Ev.congr (fun m => by unfold zaL.f; rfl) (Ev.bind (all_ev t hb ht) this)
theorem leaves_prog (t : S27) (ht : tsize t ≤ 2000000) : zb4.f t.f0 t.f1 t.f2 t.f3 = some (leavesS (allT t)) := by
 unfold zb4.f
 rw [eta27, if_pos ht]
def eqB : List S27 → List S39 → Bool
 | x :: r, y :: s => (x.f0 == y.f0 && x.f2 == y.f1) && eqB r s
 | _, _ => true
def filt (L : List S27) : List S27 := L.filter fun x => decide (x.f0 ≠ 50)
def fitsB (L : List S27) (l : List S39) : Bool := decide ((filt L).length = l.length) && eqB (filt L) l
theorem filt_skip {x : S27} {r : List S27} (c : x.f0 = 50) : filt (x :: r) = filt r := by simp [filt, List.filter_cons, c]
theorem filt_keep {x : S27} {r : List S27} (c : ¬ x.f0 = 50) : filt (x :: r) = x :: filt r := by simp [filt, List.filter_cons, c]
theorem leavesS_length (t : S27) : (leavesS (allT t)).length ≤ tsize t := by
 unfold leavesS
 rw [List.length_map]; exact Nat.le_trans (List.length_filter_le _ _) (allT_length t)
def fitsT (t : S27) (l : List S39) : Bool := okB t && fitsB (leavesS (allT t)) l
theorem rd_get27 {L : List S27} {i : Nat} {x : S27} (h : L[i]? = some x) : zbm L (i : Int) = x := by
 unfold zbm
 rw [Int.toNat_natCast, List.getD_eq_getElem?_getD, h]
 rfl
theorem rd_get39 {L : List S39} {i : Nat} {x : S39} (h : L[i]? = some x) : zbc L (i : Int) = x := by
 unfold zbc
 rw [Int.toNat_natCast, List.getD_eq_getElem?_getD, h]
 rfl
theorem drop_get {α : Type} {L : List α} {i : Nat} {x : α} (h : L[i]? = some x) : L.drop i = x :: L.drop (i + 1) := by
 obtain ⟨hi, e⟩ := List.getElem?_eq_some_iff.1 h; rw [List.drop_eq_getElem_cons hi, e]
theorem fitsB_skip {x : S27} {r : List S27} {s : List S39} (c : x.f0 = 50) : fitsB (x :: r) s = fitsB r s := by unfold fitsB; rw [filt_skip c]
theorem fitsB_nil {x : S27} {r : List S27} (c : ¬ x.f0 = 50) : fitsB (x :: r) [] = false := by unfold fitsB; rw [filt_keep c]; simp
theorem fitsB_cons {x : S27} {r : List S27} {y : S39} {s : List S39} (c : ¬ x.f0 = 50) : fitsB (x :: r) (y :: s) = ((x.f0 == y.f0 && x.f2 == y.f1) && fitsB r s) := by
 unfold fitsB
 rw [filt_keep c]; simp only [List.length_cons, eqB, Nat.add_right_cancel_iff]; cases decide ((filt r).length = s.length) <;> cases (x.f0 == y.f0 && x.f2 == y.f1) <;> simp
theorem fitsB_end (s : List S39) : fitsB [] s = decide (s.length = 0) := by
 unfold fitsB
 simp only [filt, List.filter_nil, List.length_nil, eqB, Bool.and_true]; cases s <;> simp
set_option maxHeartbeats 8000000 in
set_option maxRecDepth 100000 in
theorem fits_calls (k w1 wd : Int) (A : Option Addr) (c : Nat) (kl : List S27) (Al : Option Addr) (cl : Nat) (l : List S39) (fit : Bool) (W : World) (hk : Kd.C k27 W A kl.length kl) (hkc : kl.length ≤ c) (hl : Kd.C k39 W Al l.length l) (hlc : l.length ≤ cl) (hts : tsize ⟨k, w1, wd, kl⟩ ≤ 2000000) (hll : l.length ≤ 1000000000000) (hfit : fitsT ⟨k, w1, wd, kl⟩ l = fit) :
  Calls Try.prog 37 #[.agg #[.int .u8 k, .int .u8 w1, .int .i64 wd, .slice A kl.length c], .slice Al l.length cl] W fun e W' => e = .returned (.bool fit) ∧ Below W.heap.size W W' := by
 obtain ⟨X, hX⟩ : ∃ V, V = W.alloc (.cells #[.int .u8 k, .int .u8 w1, .int .i64 wd, .slice A kl.length c] 27) := ⟨_, rfl⟩; have HBX := zaa.mk (show Below W.heap.size W X by rw [hX]; exact zad (Below.refl _ _) _)
 have HBOX := zaa.mk (show X.heap[W.heap.size]? = some (.cells #[.int .u8 k, .int .u8 w1, .int .i64 wd, .slice A kl.length c] 27 (0, 0)) by rw [hX]; exact heap_alloc_new _ _)
 have HK := zaa.mk hk; have HKC := zaa.mk hkc; have HL := zaa.mk hl; have HLC := zaa.mk hlc; have HTS := zaa.mk hts; have HLL := zaa.mk hll; have hu := Try.underlying27; obtain ⟨ob, hob⟩ : ∃ ob, ob = okB ⟨k, w1, wd, kl⟩ := ⟨_, rfl⟩; have HRT := zaa.mk (show tree_Right.f k w1 wd kl = some ob by rw [hob]; exact right_prog k w1 wd kl)
 obtain ⟨L, hL⟩ : ∃ L, L = leavesS (allT ⟨k, w1, wd, kl⟩) := ⟨_, rfl⟩; have HLV := zaa.mk (show zb4.f k w1 wd kl = some L by rw [hL]; exact leaves_prog ⟨k, w1, wd, kl⟩ hts)
 have HLN := zaa.mk (show L.length ≤ 2000000 by rw [hL]; exact Nat.le_trans (leavesS_length _) hts)
 unfold fitsT at hfit
 rw [← hob, ← hL] at hfit; have HFT := zaa.mk hfit; clear hk hkc hl hlc hts hll hob hL hfit; go_enter Try.func37, Try.ntmps37
 go_upto_region 1 with (fail)
 change Code.wp Try.prog _ _ _ (W.alloc (.cells #[.int .u8 k, .int .u8 w1, .int .i64 wd, .slice A kl.length c] 27))
 rw [← hX]; clear hX; have p0 := zae HBOX.out 0; have p1 := zae HBOX.out 1; have p2 := zae HBOX.out 2; have p3 := zae HBOX.out 3; simp at p0 p1 p2 p3; cases ob with
 | false =>
  go_wp2_with (go_at_call 51; refine (tree_Right.calls k w1 wd A c kl false X (Kd.za4 HK.out HBX.out) HKC.out HRT.out).mono ?_; rintro e w2 ⟨rfl, hb2⟩; have HB2 := zaa.mk hb2; clear hb2 p0 p1 p2 p3)
  go_ret
  refine ⟨?_, zan HBX.out HB2.out⟩
  have := HFT.out; rw [Bool.false_and] at this; rw [← this]
  rfl
 | true =>
  have HFT' := zaa.mk (show fitsB L l = fit by have := HFT.out; rwa [Bool.true_and] at this)
  go_upto_region 4 with (go_at_call 51; refine (tree_Right.calls k w1 wd A c kl true X (Kd.za4 HK.out HBX.out) HKC.out HRT.out).mono ?_; rintro e w2 ⟨rfl, hb2⟩; have HB2 := zaa.mk hb2; clear hb2 p0 p1 p2 p3)
  have hbx := zaU HBOX.out HB2.out; have p0 := zae hbx 0; have p1 := zae hbx 1; have p2 := zae hbx 2; have p3 := zae hbx 3; simp at p0 p1 p2 p3; clear hbx; go_wp2_with (go_at_call 52; refine (zb4.calls k w1 wd A c kl L w2 (Kd.za4 HK.out (zan HBX.out HB2.out)) HKC.out HLV.out).mono ?_; rintro e w3 ⟨v, rfl, hRt, hb3⟩; obtain ⟨A2, c2, rfl, hc2, hC2⟩ := Kd.R_reads hRt; have HB3 := zaa.mk (zan (zan HBX.out HB2.out) hb3); have HC2 := zaa.mk hC2; have HLC2 := zaa.mk hc2; clear hRt hb3 hC2 hc2 p0 p1 p2 p3)
  go_loopg [5, 14] L.length (fun kq v5 v14 w' => ∃ (i a : Nat), v14 = .int .i64 i ∧ v5 = .int .i64 a ∧ i ≤ L.length ∧ a ≤ l.length ∧ zaa (kq = L.length - i) ∧ zaa (Below w3.heap.size w3 w') ∧ zaa (fitsB (L.drop i) (l.drop a) = fit))
  case atStart => exact ⟨0, 0, rfl, rfl, Nat.zero_le _, Nat.zero_le _, ⟨rfl⟩, ⟨Below.refl _ _⟩, HFT'⟩
  case round =>
   obtain ⟨i, a, rfl, rfl, hi, ha, HKQ, HBI, HFI⟩ := hrel; have hln := HLN.out; have hll := HLL.out; by_cases hlt : i < L.length
   ·obtain ⟨x, hx⟩ : ∃ x, L[i]? = some x := ⟨_, List.getElem?_eq_getElem hlt⟩
    obtain ⟨ada, A3, c3, e0, q0, q1, q2, q3, _, _⟩ := at_T27 (Kd.za4 HC2.out HBI.out) (i : Int) (by omega) (by omega)
    subst e0; rw [rd_get27 hx, Int.toNat_natCast] at q0 q1 q2 q3; have HD := zaa.mk (drop_get hx); clear hx; obtain ⟨xk, xw, xd, xl⟩ := x; simp only at q0 q1 q2 q3; go_upto_region 7 with (fail)
    obtain ⟨Y, hY⟩ : ∃ V, V = wr.alloc (.cells #[.int .u8 xk, .int .u8 xw, .int .i64 xd, .slice A3 xl.length c3] 27) := ⟨_, rfl⟩; change Code.wp Try.prog _ _ _ (wr.alloc (.cells #[.int .u8 xk, .int .u8 xw, .int .i64 xd, .slice A3 xl.length c3] 27))
    have HBY := zaa.mk (show Below wr.heap.size wr Y by rw [hY]; exact zad (Below.refl _ _) _)
    have hyb : Y.heap[wr.heap.size]? = some (.cells #[.int .u8 xk, .int .u8 xw, .int .i64 xd, .slice A3 xl.length c3] 27 (0, 0)) := by rw [hY]; exact heap_alloc_new _ _
    rw [← hY]; clear hY q0 q1 q2 q3; have y0 := zae hyb 0; have y2 := zae hyb 2; simp at y0 y2; clear hyb; have HBN := zaa.mk (zan HBI.out HBY.out); by_cases h50 : xk = 50
    ·subst h50
     go_wp2
     go_roundg (L.length - (i + 1))
     case measure => have := HKQ.out; omega
     case rel => exact ⟨i + 1, a, by go_num, rfl, by omega, ha, ⟨rfl⟩, HBN, ⟨by have := HFI.out; rw [HD.out, fitsB_skip rfl] at this; exact this⟩⟩
    have hd50 : (xk == 50) = false := by simp [h50]
    go_upto_region 8 with (fail)
    by_cases hal : a < l.length
    ·obtain ⟨y, hy⟩ : ∃ y, l[a]? = some y := ⟨_, List.getElem?_eq_getElem hal⟩
     obtain ⟨adb, e1, r0, r1, _⟩ := at_T39 (Kd.za4 HL.out (zan HB3.out HBN.out)) (a : Int) (by omega) (by omega)
     subst e1; rw [rd_get39 hy, Int.toNat_natCast] at r0 r1; have HDA := zaa.mk (drop_get hy); have HST := zaa.mk (show fitsB (L.drop i) (l.drop a) = ((xk == y.f0 && xd == y.f1) && fitsB (L.drop (i + 1)) (l.drop (a + 1))) by rw [HD.out, HDA.out]; exact fitsB_cons h50)
     clear hy HD HDA; obtain ⟨yk, yd, yz⟩ := y; simp only at r0 r1 HST; have hne : ((a : Int) == (l.length : Int)) = false := by simp; omega
     by_cases e1 : yk = xk
     ·have hb1 : (yk != xk) = false := by simp [e1]
      by_cases e2 : yd = xd
      ·have hb2 : (yd != xd) = false := by simp [e2]
       have HST2 := zaa.mk (show fitsB (L.drop (i + 1)) (l.drop (a + 1)) = fit by have := HST.out; rw [HFI.out, e1, e2] at this; simpa using this.symm)
       clear e1 e2
       go_quiet (fail)
       go_wp2
       go_roundg (L.length - (i + 1))
       case measure => have := HKQ.out; omega
       case rel => exact ⟨i + 1, a + 1, by go_num, by go_num, by omega, by omega, ⟨rfl⟩, ⟨zan HBN.out ⟨rfl, rfl, rfl, Nat.le_refl _, fun _ _ => rfl⟩⟩, HST2⟩
      ·have hb2 : (yd != xd) = true := by simp [e2]
       have hst2 : fit = false := by have := HST.out; rw [HFI.out] at this; rw [this]; have h : (xd == yd) = false := beq_eq_false_iff_ne.mpr (fun e => e2 e.symm); rw [h]; simp
       clear e1 e2
       go_quiet (fail)
       go_wp2
       go_ret
       exact ⟨by rw [hst2]; rfl, zan HB3.out (zan HBN.out ⟨rfl, rfl, rfl, Nat.le_refl _, fun _ _ => rfl⟩)⟩
     ·have hb1 : (yk != xk) = true := by simp [e1]
      have hst2 : fit = false := by have := HST.out; rw [HFI.out] at this; rw [this]; have h : (xk == yk) = false := beq_eq_false_iff_ne.mpr (fun e => e1 e.symm); rw [h]; simp
      clear e1
      go_quiet (fail)
      go_wp2
      go_ret
      exact ⟨by rw [hst2]; rfl, zan HB3.out (zan HBN.out ⟨rfl, rfl, rfl, Nat.le_refl _, fun _ _ => rfl⟩)⟩
    ·have hae : a = l.length := by omega
     have hne : ((a : Int) == (l.length : Int)) = true := by simp; omega
     have hst2 : fit = false := by have := HFI.out; rw [HD.out, hae, List.drop_length, fitsB_nil h50] at this; exact this.symm
     clear hae
     go_quiet (fail)
     go_wp2
     go_ret
     exact ⟨by rw [hst2]; rfl, zan HB3.out (zan HBN.out ⟨rfl, rfl, rfl, Nat.le_refl _, fun _ _ => rfl⟩)⟩
   ·have hie : i = L.length := by omega
    subst hie; have hst2 : fit = ((a : Int) == (l.length : Int)) := by
     have := HFI.out; rw [List.drop_length, fitsB_end, List.length_drop] at this; rw [← this]; by_cases h : a = l.length
     ·simp [h]
     ·have h1 : ¬ (a : Int) = (l.length : Int) := by omega
      have h2 : ¬ l.length - a = 0 := by omega
      simp [h1, h2]
    go_wp2
    go_ret
    exact ⟨by rw [hst2]; rfl, zan HB3.out HBI.out⟩
end Go.Proofs.Ytghbfjmmjfklfaa.H
