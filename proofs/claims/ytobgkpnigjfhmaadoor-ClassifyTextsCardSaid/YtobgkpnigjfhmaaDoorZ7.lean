/- Texts of this claim, merged. -/
import Derived.Test.YtobgkpnigjfhmaaDoorZ6
import Derived.Deep.Slices
import Derived.StillTailTactics
import Derived.SizedLaws
import Derived.ProofKit
import Derived.Lib.SmallJoins
import Derived.Maps.OwnSet
import Derived.Maps.Views
import Derived.Maps.OwnOps
import Derived.DeepKeys4
import Derived.WalkSpells
import Derived.Shelf.RegionOpen
import Derived.TacticsInMore
import Derived.LoopNIn
import Derived.LoopIn
import Derived.Sort.LoopGhostIn
set_option maxRecDepth 100000
set_option maxHeartbeats 8000000
set_option linter.unusedVariables false
set_option linter.unusedSimpArgs false
set_option linter.unusedVariables false
set_option linter.unusedSimpArgs false
namespace Go.Proofs.YtobgkpnigjfhmaaDoor.H
open Go.RowKit Go.Proofs.YtobgkpnigjfhmaaDoorW.PrintWords Go.Proofs.YtobgkpnigjfhmaaDoorW.PrintLast Go.Proofs.YtobgkpnigjfhmaaDoorW.PrintMore
inductive AT where
 | node (k w wd : Int) (A : Option Addr) (c : Nat) (kids : List AT)
namespace AT
def k : AT → Int
 | node k _ _ _ _ _ => k
def w : AT → Int
 | node _ w _ _ _ _ => w
def wd : AT → Int
 | node _ _ wd _ _ _ => wd
def A : AT → Option Addr
 | node _ _ _ A _ _ => A
def c : AT → Nat
 | node _ _ _ _ c _ => c
def kids : AT → List AT
 | node _ _ _ _ _ kids => kids
def val (T : AT) : Value := .agg #[.int .u8 T.k, .int .u8 T.w, .int .i64 T.wd, .slice T.A T.kids.length T.c]
end AT
mutual
def AT.erase : AT → S29
 | .node k w wd _ _ kids => ⟨k, w, wd, zbL kids⟩
def zbL : List AT → List S29
 | [] => []
 | T :: r => T.erase :: zbL r
end
theorem zbp : ∀ l : List AT, (zbL l).length = l.length
 | [] => rfl
 | _ :: r => by simp [zbL, zbp r]
def w0 (W : World) (ad : Addr) (i : Nat) (T : AT) : Prop := W.cell? (ad.add (i * 4)) = some (.int .u8 T.k) ∧ W.cell? ⟨(ad.add (i * 4)).block, (ad.add (i * 4)).off + 1, none⟩ = some (.int .u8 T.w) ∧ W.cell? ⟨(ad.add (i * 4)).block, (ad.add (i * 4)).off + 2, none⟩ = some (.int .i64 T.wd) ∧ W.cell? ⟨(ad.add (i * 4)).block, (ad.add (i * 4)).off + 3, none⟩ = some (.slice T.A T.kids.length T.c)
theorem w0.below {W W1 : World} {ad : Addr} {i : Nat} {T : AT} (h : w0 W ad i T) (hb : Below W.heap.size W W1) : w0 W1 ad i T := by
 obtain ⟨h0, h1, h2, h3⟩ := h
 exact ⟨(hb.cell (World.block_lt_of_cell? W _ h0)).trans h0, (hb.cell (World.block_lt_of_cell? W _ h1)).trans h1, (hb.cell (World.block_lt_of_cell? W _ h2)).trans h2, (hb.cell (World.block_lt_of_cell? W _ h3)).trans h3⟩
mutual
def AtT (W : World) : AT → Prop
 | .node _ _ _ A c kids => kids.length ≤ c ∧ kids.length ≤ 9223372036854775807 ∧ (kids = [] ∨ ∃ ad, A = some ad ∧ AtL W ad 0 kids)
def AtL (W : World) (ad : Addr) : Nat → List AT → Prop
 | _, [] => True
 | i, T :: r => (w0 W ad i T ∧ AtT W T) ∧ AtL W ad (i + 1) r
end
mutual
theorem AtT.below {W W1 : World} (hb : Below W.heap.size W W1) : ∀ (T : AT), AtT W T → AtT W1 T
 | .node _ _ _ A c kids, h => by
  simp only [AtT] at h ⊢
  refine ⟨h.1, h.2.1, ?_⟩
  rcases h.2.2 with h | ⟨ad, h1, h2⟩
  ·exact .inl h
  ·exact .inr ⟨ad, h1, AtL.below hb ad 0 kids h2⟩
theorem AtL.below {W W1 : World} (hb : Below W.heap.size W W1) (ad : Addr) : ∀ (i : Nat) (l : List AT), AtL W ad i l → AtL W1 ad i l
 | _, [], _ => by simp only [AtL]
 | i, T :: r, h => by
  simp only [AtL] at h ⊢
  exact ⟨⟨h.1.1.below hb, AtT.below hb T h.1.2⟩, AtL.below hb ad (i + 1) r h.2⟩
end
theorem AtL.get {W : World} {ad : Addr} : ∀ (l : List AT) (i j : Nat) (h : AtL W ad i l) (hj : j < l.length), w0 W ad (i + j) l[j] ∧ AtT W l[j]
 | [], i, j, _, hj => absurd hj (Nat.not_lt_zero _)
 | T :: r, i, 0, h, _ => by simp only [AtL] at h; exact h.1
 | T :: r, i, j + 1, h, hj => by
  simp only [AtL] at h
  have := AtL.get r (i + 1) j h.2 (by simpa using hj)
  rw [show i + (j + 1) = i + 1 + j by omega]
  exact this
theorem AtT.kid {W : World} {k w wd : Int} {A : Option Addr} {c : Nat} {kids : List AT} (h : AtT W (.node k w wd A c kids)) (j : Nat) (hj : j < kids.length) : ∃ ad, A = some ad ∧ w0 W ad j kids[j] ∧ AtT W kids[j] := by
 simp only [AtT] at h
 rcases h.2.2 with rfl | ⟨ad, h1, h2⟩
 ·exact absurd hj (Nat.not_lt_zero _)
 ·have := AtL.get kids 0 j h2 hj
  rw [Nat.zero_add] at this
  exact ⟨ad, h1, this⟩
theorem AtL.of {W : World} {ad : Addr} : ∀ (l : List AT) (i : Nat), (∀ (j : Nat) (hj : j < l.length), w0 W ad (i + j) l[j] ∧ AtT W l[j]) → AtL W ad i l
 | [], i, _ => by simp only [AtL]
 | T :: r, i, h => by
  simp only [AtL]
  refine ⟨by have := h 0 (by simp); simpa using this, AtL.of r (i + 1) fun j hj => ?_⟩
  have := h (j + 1) (by simpa using hj)
  rw [show i + (j + 1) = i + 1 + j by omega] at this
  exact this
theorem eraseL_get : ∀ (l : List AT) (j : Nat) (h : j < l.length), zbc (zbL l) (j : Int) = l[j].erase
 | [], j, h => absurd h (Nat.not_lt_zero _)
 | T :: r, 0, _ => by simp [zbL, zbc]
 | T :: r, j + 1, h => by
  have := eraseL_get r j (by simpa using h)
  simp only [zbL, List.getElem_cons_succ]
  rw [← this]
  simp [zbc]
theorem erase_f (T : AT) : T.erase = ⟨T.k, T.w, T.wd, zbL T.kids⟩ := by cases T; simp [AT.erase, AT.k, AT.w, AT.wd, AT.kids]
theorem exists_AT (W : World) (n : Nat) : ∀ (t : S29), SizeOf.sizeOf t < n → ∀ (A : Option Addr) (c : Nat), t.f3.length ≤ c → Kd.C k29 W A t.f3.length t.f3 → ∃ kids : List AT, zbL kids = t.f3 ∧ AtT W (.node t.f0 t.f1 t.f2 A c kids) := by
 induction n with
 | zero => intro t h; exact absurd h (Nat.not_lt_zero _)
 | succ n ih =>
  rintro ⟨k, w, wd, l⟩ ht A c hc hC
  simp only at hc hC ⊢
  have hel : ∀ i, i < l.length → ∃ T : AT, T.erase = zbc l (i : Int) ∧ ∃ ad, A = some ad ∧ w0 W ad i T ∧ AtT W T := by
   intro i hi
   obtain ⟨ad, A3, c3, e, g0, g1, g2, g3, gl, gC⟩ := at_T29 hC (i : Int) (by omega) (by omega)
   rw [Int.toNat_natCast] at g0 g1 g2 g3
   have hm : zbc l (i : Int) ∈ l := by rw [rd_at29 l i hi]; exact List.getElem_mem hi
   have hsz := List.sizeOf_lt_of_mem hm
   simp only [S29.mk.sizeOf_spec] at ht
   obtain ⟨kids, he, hA⟩ := ih (zbc l (i : Int)) (by omega) A3 c3 gl gC
   refine ⟨.node _ _ _ A3 c3 kids, ?_, ad, e, ⟨g0, g1, g2, ?_⟩, hA⟩
   ·rw [AT.erase, he, eta29]
   ·rw [show (AT.node (zbc l (i : Int)).f0 (zbc l (i : Int)).f1 (zbc l (i : Int)).f2 A3 c3 kids).kids.length = (zbc l (i : Int)).f3.length by rw [← he, zbp]; rfl]
    exact g3
  haveI : Inhabited AT := ⟨.node 0 0 0 none 0 []⟩
  obtain ⟨f, hf⟩ := Deep.choose_lt hel
  have hlen : ((List.range l.length).map f).length = l.length := by simp
  refine ⟨(List.range l.length).map f, ?_, ?_⟩
  ·refine List.ext_getElem (by rw [zbp, hlen]) fun j h1 h2 => ?_
   have := (hf j h2).1
   rw [rd_at29 l j h2] at this
   rw [← rd_at29 _ j h1, eraseL_get _ j (by rw [hlen]; exact h2), ← this]
   simp
  ·simp only [AtT]
   refine ⟨by rw [hlen]; exact hc, by rw [hlen]; exact hC.2.1, ?_⟩
   rcases Nat.eq_zero_or_pos l.length with h0 | h0
   ·exact .inl (by rw [h0]; rfl)
   ·obtain ⟨_, ad, he, _⟩ := hf 0 h0
    refine .inr ⟨ad, he, AtL.of _ 0 fun j hj => ?_⟩
    rw [hlen] at hj
    obtain ⟨_, ad', he', h1, h2⟩ := hf j hj
    rw [he] at he'
    cases he'
    simpa using ⟨h1, h2⟩
theorem C_of_AT (n : Nat) : ∀ (T : AT), SizeOf.sizeOf T < n → ∀ (W : World), AtT W T → Kd.C k29 W T.A T.kids.length (zbL T.kids) := by
 induction n with
 | zero => intro T h; exact absurd h (Nat.not_lt_zero _)
 | succ n ih =>
  rintro ⟨k, w, wd, A, c, kids⟩ ht W h
  simp only [AT.A, AT.kids]
  have hm : kids.length ≤ 9223372036854775807 := by simp only [AtT] at h; exact h.2.1
  refine ⟨zbp kids, hm, fun hpos => ?_⟩
  obtain ⟨ad, e, _, _⟩ := AtT.kid h 0 hpos
  refine ⟨ad, e, fun j p hj => ?_⟩
  obtain ⟨hlt, rfl⟩ := List.getElem?_eq_some_iff.1 hj
  have hlt2 : j < kids.length := by rw [← zbp]; exact hlt
  obtain ⟨ad', e', ⟨h0, h1, h2, h3⟩, hT⟩ := AtT.kid h j hlt2
  rw [e] at e'
  cases e'
  have hs : SizeOf.sizeOf kids[j] < n := by
   have := List.sizeOf_lt_of_mem (List.getElem_mem hlt2)
   simp only [AT.node.sizeOf_spec] at ht
   omega
  have hC := ih kids[j] hs W hT
  have hle : kids[j].kids.length ≤ kids[j].c := by
   cases hk : kids[j] with
   | node k w wd A c l =>
    rw [hk] at hT
    simp only [AtT] at hT
    exact hT.1
  have ep : (zbL kids)[j] = kids[j].erase := by rw [← rd_at29 _ j hlt, eraseL_get _ j hlt2]
  rw [ep, erase_f]
  refine ⟨[.int .u8 kids[j].k, .int .u8 kids[j].w, .int .i64 kids[j].wd, .slice kids[j].A kids[j].kids.length kids[j].c], rfl, ?_, fun i u hu => ?_⟩
  ·have := k29_mk W ⟨kids[j].k, kids[j].w, kids[j].wd, zbL kids[j].kids⟩ (A3 := kids[j].A) (c3 := kids[j].c) (by simp only; rw [zbp]; exact hle) (by simp only; rw [zbp]; exact hC)
   simp only [zbp] at this
   exact this
  ·match i, hu with
   | 0, hu => simp only [List.getElem?_cons_zero, Option.some.injEq] at hu; subst hu; exact h0
   | 1, hu => simp only [List.getElem?_cons_succ, List.getElem?_cons_zero, Option.some.injEq] at hu; subst hu; rw [show k29.sz = 4 from rfl, zba _ _ 1 (by omega)]; exact h1
   | 2, hu => simp only [List.getElem?_cons_succ, List.getElem?_cons_zero, Option.some.injEq] at hu; subst hu; rw [show k29.sz = 4 from rfl, zba _ _ 2 (by omega)]; exact h2
   | 3, hu => simp only [List.getElem?_cons_succ, List.getElem?_cons_zero, Option.some.injEq] at hu; subst hu; rw [show k29.sz = 4 from rfl, zba _ _ 3 (by omega)]; exact h3
end Go.Proofs.YtobgkpnigjfhmaaDoor.H
namespace Go.Proofs.YtobgkpnigjfhmaaDoor.H
open Go.RowKit Go.Proofs.YtobgkpnigjfhmaaDoorW.PrintWords Go.Proofs.YtobgkpnigjfhmaaDoorW.PrintLast Go.Proofs.YtobgkpnigjfhmaaDoorW.PrintMore
abbrev nodeW (t : S29) (A : Option Addr) (c : Nat) : Value := .agg #[.int .u8 t.f0, .int .u8 t.f1, .int .i64 t.f2, .slice A t.f3.length c]
def RSelf (t : S29) : Prop := ∀ (A B : Option Addr) (cA cB : Nat) (W : World), t.f3.length ≤ cA → t.f3.length ≤ cB → Kd.C k29 W A t.f3.length t.f3 → Kd.C k29 W B t.f3.length t.f3 →
  Calls Tryd.prog 15 #[nodeW t A cA, nodeW t B cB] W fun e W' => e = .returned (.bool true) ∧ Below W.heap.size W W'
theorem mixS : Tryd.prog.follows .mixedOrders = true := by kernel_rfl
theorem rself_step (k w wd : Int) (l : List S29) (hl : l.length ≤ 1000000000) (hel : ∀ (i : Nat) (h1 : i < l.length), RSelf l[i]) : RSelf ⟨k, w, wd, l⟩ := by
 intro A B cA cB W hcA hcB hA hB
 have hu := Tryd.underlying29; obtain ⟨X1, hX1⟩ : ∃ X, X = W.alloc (.cells #[.int .u8 k, .int .u8 w, .int .i64 wd, .slice A l.length cA] 29) := ⟨_, rfl⟩; obtain ⟨X, hX⟩ : ∃ X, X = X1.alloc (.cells #[.int .u8 k, .int .u8 w, .int .i64 wd, .slice B l.length cB] 29) := ⟨_, rfl⟩; have hs1 : X1.heap.size = W.heap.size + 1 := by rw [hX1]; simp
 have b1 : Below W.heap.size W X1 := by rw [hX1]; exact zad (Below.refl _ _) _
 have b2 : Below X1.heap.size X1 X := by rw [hX]; exact zad (Below.refl _ _) _
 have HK1 := zaa.mk (show X.heap[W.heap.size]? = some (.cells #[.int .u8 k, .int .u8 w, .int .i64 wd, .slice A l.length cA] 29 (0, 0)) from zat (by rw [hX1]; exact heap_alloc_new _ _) b2)
 have HK2 := zaa.mk (show X.heap[W.heap.size + 1]? = some (.cells #[.int .u8 k, .int .u8 w, .int .i64 wd, .slice B l.length cB] 29 (0, 0)) by rw [hX, ← hs1]; exact heap_alloc_new _ _)
 have HBX := zaa.mk (zai b1 b2); have HA := zaa.mk (Kd.zaT hA HBX.out); have HB := zaa.mk (Kd.zaT hB HBX.out); have HEL := zaa.mk hel; have HLL := zaa.mk hl; clear hA hB hel hs1 b1 b2; have HCELL := zaa.mk (fun (wr : World) (hw : Below X.heap.size X wr) => (show (wr.cell? ⟨W.heap.size, 0, none⟩ = some (.int .u8 k) ∧ wr.cell? ⟨W.heap.size, 1, none⟩ = some (.int .u8 w) ∧ wr.cell? ⟨W.heap.size, 2, none⟩ = some (.int .i64 wd) ∧ wr.cell? ⟨W.heap.size, 3, none⟩ = some (.slice A l.length cA)) ∧ (wr.cell? ⟨W.heap.size + 1, 0, none⟩ = some (.int .u8 k) ∧ wr.cell? ⟨W.heap.size + 1, 1, none⟩ = some (.int .u8 w) ∧ wr.cell? ⟨W.heap.size + 1, 2, none⟩ = some (.int .i64 wd) ∧ wr.cell? ⟨W.heap.size + 1, 3, none⟩ = some (.slice B l.length cB)) from by
  have h1 := zat HK1.out hw; have h2 := zat HK2.out hw; have a0 := zaf h1 0; have a1 := zaf h1 1; have a2 := zaf h1 2; have a3 := zaf h1 3; have c0 := zaf h2 0; have c1 := zaf h2 1; have c2 := zaf h2 2; have c3 := zaf h2 3; simp at a0 a1 a2 a3 c0 c1 c2 c3; exact ⟨⟨a0, a1, a2, a3⟩, ⟨c0, c1, c2, c3⟩⟩))
 obtain ⟨⟨a0, a1, a2, a3⟩, ⟨c0, c1, c2, c3⟩⟩ := HCELL.out X (Below.refl _ _); unfold nodeW
 simp only; go_enter Tryd.func15, Tryd.ntmps15
 go_upto_region 1 with (fail)
 change Code.wp Tryd.prog _ _ _ ((W.alloc (.cells #[.int .u8 k, .int .u8 w, .int .i64 wd, .slice A l.length cA] 29)).alloc (.cells #[.int .u8 k, .int .u8 w, .int .i64 wd, .slice B l.length cB] 29))
 rw [← hX1, ← hX]; clear hX hX1; have d0 : (k != k) = false := by simp
 have d1 : (w != w) = false := by simp
 have d2 : (wd != wd) = false := by simp
 have d3 : ((l.length : Int) != (l.length : Int)) = false := by simp
 go_wp2
 clear d0 d1 d2 d3 a0 a1 a2 a3 c0 c1 c2 c3; go_loopg [5] l.length (fun kq v5 wr => ∃ i : Nat, v5 = .int .i64 i ∧ i ≤ l.length ∧ zaa (kq = l.length - i) ∧ zaa (Below X.heap.size X wr))
 case atStart => exact ⟨0, rfl, Nat.zero_le _, ⟨rfl⟩, ⟨Below.refl _ _⟩⟩
 case round =>
  obtain ⟨i, rfl, hi, HK, HW⟩ := hrel; have hll := HLL.out; obtain ⟨⟨_, _, _, a3⟩, ⟨_, _, _, c3⟩⟩ := HCELL.out wr HW.out; by_cases hlt : i < l.length
  case neg =>
   go_wp2
   go_ret
   exact ⟨rfl, zai HBX.out HW.out⟩
  have hA := Kd.zaT HA.out HW.out; have hB := Kd.zaT HB.out HW.out; obtain ⟨ad, A3, g3c, rfl, g0, g1, g2, g3, gl, gC⟩ := at_T29 hA (i : Int) (by omega) (by omega)
  obtain ⟨bd, B3, e3, rfl, b0, b1, b2, b3, bl, bC⟩ := at_T29 hB (i : Int) (by omega) (by omega)
  rw [Int.toNat_natCast] at g0 g1 g2 g3 b0 b1 b2 b3; have hrd : zbc l (i : Int) = l[i] := by
   unfold zbc
   rw [Int.toNat_natCast, List.getD_eq_getElem?_getD, List.getElem?_eq_getElem hlt]
   rfl
  rw [hrd] at g0 g1 g2 g3 gl gC b0 b1 b2 b3 bl bC; have HT := zaa.mk (HEL.out i hlt); obtain ⟨t, ht⟩ : ∃ t, t = l[i] := ⟨_, rfl⟩; rw [← ht] at g0 g1 g2 g3 gl gC HT b0 b1 b2 b3 bl bC; clear ht hrd hA hB a3 c3; have HSX := zaa.mk (fun (w' : World) (hw : Below wr.heap.size wr w') => (show (w'.cell? ⟨W.heap.size, 3, none⟩ = some (.slice (some ad) l.length cA) ∧ w'.cell? ⟨W.heap.size + 1, 3, none⟩ = some (.slice (some bd) l.length cB)) ∧ (w'.cell? (ad.add (i * 4)) = some (.int .u8 t.f0) ∧ w'.cell? ⟨(ad.add (i * 4)).block, (ad.add (i * 4)).off + 1, none⟩ = some (.int .u8 t.f1) ∧ w'.cell? ⟨(ad.add (i * 4)).block, (ad.add (i * 4)).off + 2, none⟩ = some (.int .i64 t.f2) ∧ w'.cell? ⟨(ad.add (i * 4)).block, (ad.add (i * 4)).off + 3, none⟩ = some (.slice A3 t.f3.length g3c)) ∧ (w'.cell? (bd.add (i * 4)) = some (.int .u8 t.f0) ∧ w'.cell? ⟨(bd.add (i * 4)).block, (bd.add (i * 4)).off + 1, none⟩ = some (.int .u8 t.f1) ∧ w'.cell? ⟨(bd.add (i * 4)).block, (bd.add (i * 4)).off + 2, none⟩ = some (.int .i64 t.f2) ∧ w'.cell? ⟨(bd.add (i * 4)).block, (bd.add (i * 4)).off + 3, none⟩ = some (.slice B3 t.f3.length e3)) from by
   obtain ⟨⟨_, _, _, x3⟩, ⟨_, _, _, y3⟩⟩ := HCELL.out w' (zai HW.out hw); exact ⟨⟨x3, y3⟩, ⟨(hw.cell (World.block_lt_of_cell? wr _ g0)).trans g0, (hw.cell (World.block_lt_of_cell? wr _ g1)).trans g1, (hw.cell (World.block_lt_of_cell? wr _ g2)).trans g2, (hw.cell (World.block_lt_of_cell? wr _ g3)).trans g3⟩, ⟨(hw.cell (World.block_lt_of_cell? wr _ b0)).trans b0, (hw.cell (World.block_lt_of_cell? wr _ b1)).trans b1, (hw.cell (World.block_lt_of_cell? wr _ b2)).trans b2, (hw.cell (World.block_lt_of_cell? wr _ b3)).trans b3⟩⟩))
  have HCALL := zaa.mk (fun (w' : World) (hw : Below wr.heap.size wr w') => HT.out A3 B3 g3c e3 w' gl bl (Kd.zaT gC hw) (Kd.zaT bC hw))
  clear g0 g1 g2 g3 gl gC b0 b1 b2 b3 bl bC HT; obtain ⟨⟨_, _, _, a3⟩, ⟨_, _, _, c3⟩⟩ := HCELL.out wr HW.out; go_upto_region 6 with (fail)
  clear a3 c3; obtain ⟨Y, hY⟩ : ∃ Y : World, Y = wr.drew := ⟨_, rfl⟩; have HBY := zaa.mk (show Below wr.heap.size wr Y by rw [hY]; exact (Below.refl _ _).drew)
  refine wp_region_noPanic (zbn [0, 1, 2, 3, 4, 5, 6, 7, 8, 9, 10, 11] (fun W' => (W'.cell? ⟨W.heap.size, 3, none⟩ = some (.slice (some ad) l.length cA) ∧ W'.cell? ⟨W.heap.size + 1, 3, none⟩ = some (.slice (some bd) l.length cB)) ∧ (W'.cell? (ad.add (i * 4)) = some (.int .u8 t.f0) ∧ W'.cell? ⟨(ad.add (i * 4)).block, (ad.add (i * 4)).off + 1, none⟩ = some (.int .u8 t.f1) ∧ W'.cell? ⟨(ad.add (i * 4)).block, (ad.add (i * 4)).off + 2, none⟩ = some (.int .i64 t.f2) ∧ W'.cell? ⟨(ad.add (i * 4)).block, (ad.add (i * 4)).off + 3, none⟩ = some (.slice A3 t.f3.length g3c)) ∧ (W'.cell? (bd.add (i * 4)) = some (.int .u8 t.f0) ∧ W'.cell? ⟨(bd.add (i * 4)).block, (bd.add (i * 4)).off + 1, none⟩ = some (.int .u8 t.f1) ∧ W'.cell? ⟨(bd.add (i * 4)).block, (bd.add (i * 4)).off + 2, none⟩ = some (.int .i64 t.f2) ∧ W'.cell? ⟨(bd.add (i * 4)).block, (bd.add (i * 4)).off + 3, none⟩ = some (.slice B3 t.f3.length e3))) mixS ?_)
  rw [← hY]; clear hY; have HS0 := zaa.mk (HSX.out Y HBY.out); refine zah 0 rfl HS0.out (fun _ h => by obtain ⟨⟨s0, s1⟩, ⟨s2, s3, s4, s5⟩, ⟨s6, s7, s8, s9⟩⟩ := h; go_simp; try rfl) ?_
  simp only [Act.put, zaj]; refine zah 1 rfl HS0.out (fun _ h => by obtain ⟨⟨s0, s1⟩, ⟨s2, s3, s4, s5⟩, ⟨s6, s7, s8, s9⟩⟩ := h; go_simp; try rfl) ?_
  simp only [Act.put, zaj]; refine zah 2 rfl HS0.out (fun _ h => by obtain ⟨⟨s0, s1⟩, ⟨s2, s3, s4, s5⟩, ⟨s6, s7, s8, s9⟩⟩ := h; go_simp; try rfl) ?_
  simp only [Act.put, zaj]; refine zah 3 rfl HS0.out (fun _ h => by obtain ⟨⟨s0, s1⟩, ⟨s2, s3, s4, s5⟩, ⟨s6, s7, s8, s9⟩⟩ := h; go_simp; try rfl) ?_
  simp only [Act.put, zaj]; refine zah 4 rfl HS0.out (fun _ h => by obtain ⟨⟨s0, s1⟩, ⟨s2, s3, s4, s5⟩, ⟨s6, s7, s8, s9⟩⟩ := h; go_simp; try rfl) ?_
  simp only [Act.put, zaj]; refine zah 5 rfl HS0.out (fun _ h => by obtain ⟨⟨s0, s1⟩, ⟨s2, s3, s4, s5⟩, ⟨s6, s7, s8, s9⟩⟩ := h; go_simp; try rfl) ?_
  simp only [Act.put, zaj]; refine zah 6 rfl HS0.out (fun _ h => by obtain ⟨⟨s0, s1⟩, ⟨s2, s3, s4, s5⟩, ⟨s6, s7, s8, s9⟩⟩ := h; go_simp; try rfl) ?_
  simp only [Act.put, zaj]; refine zah 7 rfl HS0.out (fun _ h => by obtain ⟨⟨s0, s1⟩, ⟨s2, s3, s4, s5⟩, ⟨s6, s7, s8, s9⟩⟩ := h; go_simp; try rfl) ?_
  simp only [Act.put, zaj]; refine zah 8 rfl HS0.out (fun _ h => by obtain ⟨⟨s0, s1⟩, ⟨s2, s3, s4, s5⟩, ⟨s6, s7, s8, s9⟩⟩ := h; go_simp; try rfl) ?_
  simp only [Act.put, zaj]; refine zah 9 rfl HS0.out (fun _ h => by obtain ⟨⟨s0, s1⟩, ⟨s2, s3, s4, s5⟩, ⟨s6, s7, s8, s9⟩⟩ := h; go_simp; try rfl) ?_
  simp only [Act.put, zaj]; refine zaN (i := 10) rfl (by kernel_rfl) (fun K hK => ?_)
  have hcall := HCALL.out Y HBY.out; unfold nodeW at hcall
  go_simp
  refine hcall.mono ?_
  rintro e w5 ⟨rfl, hb5⟩
  have HB5 := zaa.mk (zai HBY.out hb5); have HS5 := zaa.mk (HSX.out w5 HB5.out); clear hcall hb5; refine hK.out _ _ (fun _ => HS5.out) (fun _ => ?_)
  clear hK K; try simp only [Act.put, zaj]
  refine zah 11 rfl HS5.out (fun _ h => by obtain ⟨⟨s0, s1⟩, ⟨s2, s3, s4, s5⟩, ⟨s6, s7, s8, s9⟩⟩ := h; go_simp; try rfl) ?_
  simp only [Act.put, zaj]; refine zbb (by kernel_rfl) (NoPanic.normal ?_) _
  go_wp2
  go_roundg (l.length - (i + 1))
  case measure => have := HK.out; omega
  case rel => exact ⟨i + 1, by go_num, by omega, ⟨rfl⟩, ⟨zai HW.out (zai HB5.out (Below.refl _ _))⟩⟩
theorem rself_calls (z : Nat) : ∀ t : S29, SizeOf.sizeOf t < z → tsize t ≤ 1000000000 → RSelf t := by
 induction z with
 | zero => intro t h; exact absurd h (Nat.not_lt_zero _)
 | succ z ih =>
  rintro ⟨k, w, wd, l⟩ hz hs
  simp only [tsize] at hs; refine rself_step k w wd l (by have := length_lsize l; omega) fun i h1 => ih l[i] ?_ ?_
  ·have := List.sizeOf_lt_of_mem (List.getElem_mem h1)
   simp only [S29.mk.sizeOf_spec] at hz; omega
  ·have : tsize l[i] ≤ lsize l := by
    clear ih hz hs
    induction l generalizing i with
    | nil => exact absurd h1 (Nat.not_lt_zero _)
    | cons x r ih =>
     simp only [lsize]; cases i with
     | zero => simp
     | succ i =>
      have := ih i (by simpa using h1)
      simp only [List.getElem_cons_succ]; omega
   omega
theorem rnames_calls (A1 A2 A3 A4 : Option Addr) (c1 c2 c3 c4 : Nat) (ds : List S72) (bs : List S43) (W : World) (h1 : Kd.C k72 W A1 ds.length ds) (h2 : Kd.C k43 W A2 bs.length bs) (h3 : Kd.C k72 W A3 ds.length ds) (h4 : Kd.C k43 W A4 bs.length bs) (hn : ds.length + bs.length ≤ 1000000) :
  Calls Tryd.prog 16 #[.agg #[.slice A1 ds.length c1, .slice A2 bs.length c2], .agg #[.slice A3 ds.length c3, .slice A4 bs.length c4]] W fun e W' => e = .returned (.bool true) ∧ Below W.heap.size W W' := by
 obtain ⟨X1, hX1⟩ : ∃ V, V = W.alloc (.cells #[.slice A1 ds.length c1, .slice A2 bs.length c2] 26) := ⟨_, rfl⟩; obtain ⟨X, hX⟩ : ∃ V, V = X1.alloc (.cells #[.slice A3 ds.length c3, .slice A4 bs.length c4] 26) := ⟨_, rfl⟩; have hs1 : X1.heap.size = W.heap.size + 1 := by rw [hX1]; simp
 have b1 : Below W.heap.size W X1 := by rw [hX1]; exact zad (Below.refl _ _) _
 have b2 : Below X1.heap.size X1 X := by rw [hX]; exact zad (Below.refl _ _) _
 have HBX := zaa.mk (show Below W.heap.size W X from b1.trans (b2.mono b1.size))
 have HK1 := zaa.mk (show X.heap[W.heap.size]? = some (.cells #[.slice A1 ds.length c1, .slice A2 bs.length c2] 26 (0, 0)) from zat (by rw [hX1]; exact heap_alloc_new _ _) b2)
 have HK2 := zaa.mk (show X.heap[W.heap.size + 1]? = some (.cells #[.slice A3 ds.length c3, .slice A4 bs.length c4] 26 (0, 0)) by rw [hX, ← hs1]; exact heap_alloc_new _ _)
 have H1 := zaa.mk (Kd.zaT h1 HBX.out); have H2 := zaa.mk (Kd.zaT h2 HBX.out); have H3 := zaa.mk (Kd.zaT h3 HBX.out); have H4 := zaa.mk (Kd.zaT h4 HBX.out); have HN := zaa.mk hn; have hum := Tryd.underlying26; have hud := Tryd.underlying72; have hub := Tryd.underlying43; have hus := Tryd.underlying41; clear h1 h2 h3 h4 hn hs1 b1 b2; have HCELL := zaa.mk (fun (w : World) (hw : Below X.heap.size X w) => (show (w.cell? ⟨W.heap.size, 0, none⟩ = some (.slice A1 ds.length c1) ∧ w.cell? ⟨W.heap.size, 1, none⟩ = some (.slice A2 bs.length c2)) ∧ w.cell? ⟨W.heap.size + 1, 0, none⟩ = some (.slice A3 ds.length c3) ∧ w.cell? ⟨W.heap.size + 1, 1, none⟩ = some (.slice A4 bs.length c4) from by
  have g1 := zat HK1.out hw; have g2 := zat HK2.out hw; have a0 := zaf g1 0; have a1 := zaf g1 1; have d0 := zaf g2 0; have d1 := zaf g2 1; simp at a0 a1 d0 d1; exact ⟨⟨a0, a1⟩, d0, d1⟩))
 obtain ⟨⟨a0, a1⟩, d0, d1⟩ := HCELL.out X (Below.refl _ _); go_enter Tryd.func16, Tryd.ntmps16
 go_upto_region 1 with (fail)
 change Code.wp Tryd.prog _ _ _ ((W.alloc (.cells #[.slice A1 ds.length c1, .slice A2 bs.length c2] 26)).alloc (.cells #[.slice A3 ds.length c3, .slice A4 bs.length c4] 26))
 rw [← hX1, ← hX]; clear hX hX1; have e1 : ((ds.length : Int) != (ds.length : Int)) = false := by simp
 have e2 : ((bs.length : Int) != (bs.length : Int)) = false := by simp
 go_wp2
 clear e1 e2 a0 a1 d0 d1; go_loopg [5] ds.length (fun kq v5 wr => ∃ i : Nat, v5 = .int .i64 i ∧ i ≤ ds.length ∧ zaa (kq = ds.length - i) ∧ zaa (Below X.heap.size X wr))
 case atStart => exact ⟨0, rfl, Nat.zero_le _, ⟨rfl⟩, ⟨Below.refl _ _⟩⟩
 case round =>
  obtain ⟨i, rfl, hi, HK, HW⟩ := hrel; have hn := HN.out; obtain ⟨⟨a0, a1⟩, d0, d1⟩ := HCELL.out wr HW.out; by_cases hlt : i < ds.length
  ·obtain ⟨ad, eA, p0, p1, p2, p3⟩ := at_T72 (Kd.zaT H1.out HW.out) (i : Int) (by omega) (by omega)
   obtain ⟨bd, eB, q0, q1, q2, q3⟩ := at_T72 (Kd.zaT H3.out HW.out) (i : Int) (by omega) (by omega)
   subst eA; subst eB; rw [Int.toNat_natCast] at p0 p1 p2 p3 q0 q1 q2 q3; obtain ⟨⟨⟨x0, x1⟩, x2, x3⟩, hx⟩ : ∃ x, x = rd_T72 ds (i : Int) := ⟨_, rfl⟩; rw [← hx] at p0 p1 p2 p3 q0 q1 q2 q3; clear hx; go_upto_region 6 with (fail)
   go_quiet (fail)
   go_wp2
   go_roundg (ds.length - (i + 1))
   case measure => have := HK.out; omega
   case rel => exact ⟨i + 1, by go_num, by omega, ⟨rfl⟩, ⟨HW.out.trans ⟨rfl, rfl, rfl, Nat.le_refl _, fun _ _ => rfl⟩⟩⟩
  ·have hie : i = ds.length := by omega
   clear hie; go_wp2
   obtain ⟨wo, rfl⟩ : ∃ w_ : World, w_ = wr := ⟨_, rfl⟩; clear a0 a1 d0 d1; go_loopg [6] bs.length (fun kq v6 wr => ∃ j : Nat, v6 = .int .i64 j ∧ j ≤ bs.length ∧ zaa (kq = bs.length - j) ∧ zaa (Below X.heap.size X wr))
   case atStart => exact ⟨0, rfl, Nat.zero_le _, ⟨rfl⟩, HW⟩
   case round =>
    obtain ⟨j, rfl, hj, HK2', HW2⟩ := hrel; obtain ⟨⟨a0, a1⟩, d0, d1⟩ := HCELL.out wr HW2.out; by_cases hlt2 : j < bs.length
    ·obtain ⟨ad, eA, p0, p1, p2⟩ := at_T43 (Kd.zaT H2.out HW2.out) (j : Int) (by omega) (by omega)
     obtain ⟨bd, eB, q0, q1, q2⟩ := at_T43 (Kd.zaT H4.out HW2.out) (j : Int) (by omega) (by omega)
     subst eA; subst eB; rw [Int.toNat_natCast] at p0 p1 p2 q0 q1 q2; obtain ⟨⟨⟨x0, x1⟩, x2⟩, hx⟩ : ∃ x, x = rd_T43 bs (j : Int) := ⟨_, rfl⟩; rw [← hx] at p0 p1 p2 q0 q1 q2; clear hx; go_upto_region 11 with (fail)
     go_quiet (fail)
     go_wp2
     go_roundg (bs.length - (j + 1))
     case measure => have := HK2'.out; omega
     case rel => exact ⟨j + 1, by go_num, by omega, ⟨rfl⟩, ⟨HW2.out.trans ⟨rfl, rfl, rfl, Nat.le_refl _, fun _ _ => rfl⟩⟩⟩
    ·go_wp2
     go_ret
     exact ⟨rfl, HBX.out.trans (HW2.out.mono HBX.out.size)⟩
instance : Inhabited S80 := ⟨z80⟩
end Go.Proofs.YtobgkpnigjfhmaaDoor.H
namespace Go.Proofs.YtobgkpnigjfhmaaDoor.H
open Go.RowKit Go.Proofs.YtobgkpnigjfhmaaDoorW.PrintWords Go.Proofs.YtobgkpnigjfhmaaDoorW.PrintLast Go.Proofs.YtobgkpnigjfhmaaDoorW.PrintMore
open Go.Maps (Keyed IsMap)
section
def rawE (v : Value) : Option (DataW Value × List MemPlace) := some (.held v, [])
def mval (D : DataW Value) (kl : Lit) (z : Value) : Value := match D.atKey kl (.held z) with | .held v => v | _ => z
variable {P : Program} {k t e : TypeId} {W : World} {b n : Nat} {D : DataW Value} {key val z : Value} {kl kl' : Lit}
theorem rawE_inv {v : Value} {d : DataW Value} {ps : List MemPlace} (h : rawE v = some (d, ps)) : d = .held v := by
 simp [rawE] at h; exact h.1.symm
theorem omap_look (h : W.ownsMap P k rawE b n D) (K : Keyed P k) (ht : P.underlying t = some (.map k e)) (hz : (zeroValue e).run P W = .ok z W) (hkey : keyOf P k key = some kl) :
  (Instr.lookup t (.map (some b)) key false).run P W = .ok (mval D kl z) W := by
 obtain ⟨v, ps, hr, hv⟩ := h.lookup K ht hz (zd := .held z) (zp := []) rfl hkey; rw [hr]; unfold mval
 rw [rawE_inv hv]
theorem omap_look_ok (h : W.ownsMap P k rawE b n D) (K : Keyed P k) (ht : P.underlying t = some (.map k e)) (hz : (zeroValue e).run P W = .ok z W) (hkey : keyOf P k key = some kl) :
  (Instr.lookup t (.map (some b)) key true).run P W = .ok (.tuple #[mval D kl z, .bool (Maps.has D kl)]) W := by
 obtain ⟨v, ps, hr, hv⟩ := h.look_ok K ht hz (zd := .held z) (zp := []) rfl hkey; rw [hr]; unfold mval
 rw [rawE_inv hv]
theorem omap_store (h : W.ownsMap P k rawE b n D) (K : Keyed P k) (ht : P.underlying t = some (.map k e)) (hn : n < maxLen) (hkey : keyOf P k key = some kl) :
  ∃ W', (Instr.mapUpdate t (.map (some b)) key val).run P W = .ok () W' ∧ W'.ownsMap P k rawE b (n + 1) (D.put kl (.held val)) ∧ W.mapTurned W' b :=
 h.store K ht hn hkey rfl
theorem mval_put_same (hD : IsMap D) (hk : WideAt.IsKeyLit kl) : mval (D.put kl (.held val)) kl z = val := by
 unfold mval
 rw [Maps.atKey_put_same hD hk]
theorem mval_put_other (hne : kl' ≠ kl) : mval (D.put kl (.held val)) kl' z = mval D kl' z := by
 unfold mval
 rw [Maps.atKey_put_other hne]
theorem mval_empty : mval (.map []) kl z = z := by simp [mval, DataW.atKey]
end
theorem turned_grown {W W' : World} {b : Nat} (h : W.mapTurned W' b) : W.grownBy W' (some b) := h.grown
theorem sp_laid : laidOutB Tryd.prog = true := by kernel_rfl
theorem sp_row : (41 : TypeId) < Tryd.prog.types.size := of_decide_eq_true (by kernel_rfl)
theorem sp_wide : (match Tryd.prog.underlying 41 with | some (.array _ _) | some (.struct _) => true | _ => false) = true := by rw [Tryd.underlying41]
theorem spLaw : Keyed Tryd.prog 41 := Keyed.of_law (deep_law_laid sp_laid (m := 2) (by omega) sp_row (by kernel_rfl) sp_wide)
def inI (a : Int) : Prop := -9223372036854775808 ≤ a ∧ a ≤ 9223372036854775807
theorem inI_wf {a : Int} (h : inI a) : (Lit.int .i64 a).wf = true := WalkArith.wf_i64 h
theorem inI_wrap (a : Int) : inI (wrap64 a) := by unfold inI wrap64; omega
abbrev spV (s : Int × Int) : Value := .agg #[.int .i64 s.1, .int .i64 s.2]
theorem spCells : Tryd.prog.cellsOf 41 = 2 := by kernel_rfl
theorem spCells3 : Tryd.prog.cellsOf 3 = 1 := by kernel_rfl
theorem spKeyT : Tryd.prog.keyType 41 = true := by kernel_rfl
theorem spKey (s : Int × Int) (h1 : inI s.1) (h2 : inI s.2) : ∃ l, keyOf Tryd.prog 41 (spV s) = some l := by
 have w1 := inI_wf h1; have w2 := inI_wf h2; obtain ⟨n, hn⟩ : ∃ n, Tryd.prog.types.size + 1 = n + 1 + 1 := ⟨Tryd.prog.types.size - 1, by have h : 0 < Tryd.prog.types.size := Nat.lt_of_le_of_lt (Nat.zero_le _) sp_row; omega⟩
 unfold keyOf
 rw [Tryd.underlying41]; simp only [spKeyT, hn]; have hf : (spV s).formed Tryd.prog 41 = true := by simp [Value.formed, Tryd.underlying41, spCells]
 simp only [hf, Bool.and_self, if_true]; simp [Program.keyLits, Tryd.underlying41, spCells, spCells3, Tryd.underlying3, Value.cells, w1, w2]
abbrev Ent := (Int × Int) × (Int × Int)
def zbq (L : List Ent) (s : Int × Int) : Option (Int × Int) := (L.find? (fun e => e.1 == s)).map (·.2)
theorem firstOf_snoc (L : List Ent) (e : Ent) (s : Int × Int) : zbq (L ++ [e]) s = (zbq L s).or (if e.1 = s then some e.2 else none) := by
 unfold zbq
 rw [List.find?_append]; cases h : List.find? (fun e => e.1 == s) L with
 | some x => simp
 | none =>
  by_cases c : e.1 = s
  ·simp [List.find?_cons, c]
  ·simp [List.find?_cons, c]
abbrev colV (c : Int × Int) : Value := .agg #[.int .i64 c.1, .int .i64 c.2]
structure Holds (W : World) (b n : Nat) (L : List Ent) : Prop where
 own : ∃ D, W.ownsMap Tryd.prog 41 rawE b n D ∧ ∀ s l, keyOf Tryd.prog 41 (spV s) = some l → Maps.has D l = (zbq L s).isSome ∧ mval D l (colV (0, 0)) = colV ((zbq L s).getD (0, 0))
theorem Holds.keep {W W' : World} {b n : Nat} {L : List Ent} (h : Holds W b n L) (hk : W'.heap[b]? = W.heap[b]?) : Holds W' b n L := by
 obtain ⟨D, ⟨es, clock, h1, h2⟩, hd⟩ := h.own; exact ⟨D, ⟨es, clock, hk.trans h1, h2⟩, hd⟩
theorem Holds.lt {W : World} {b n : Nat} {L : List Ent} (h : Holds W b n L) : b < W.heap.size := by
 obtain ⟨D, ho, _⟩ := h.own; exact ho.lt
theorem Holds.below {W W' : World} {b n : Nat} {L : List Ent} (h : Holds W b n L) (hb : Below W.heap.size W W') : Holds W' b n L := h.keep (hb.block b h.lt)
theorem Holds.start (W : World) : Holds (W.alloc (.map #[] 0)) W.heap.size 0 [] := ⟨.map [], World.ownsMap_made W Tryd.prog 41 rawE, fun s l h => ⟨rfl, mval_empty⟩⟩
theorem spV_inj {s t : Int × Int} (h : spV s = spV t) : s = t := by
 injection h with h
 simp at h; exact Prod.ext h.1 h.2
theorem Holds.look {W : World} {b n : Nat} {L : List Ent} (h : Holds W b n L) (s : Int × Int) (h1 : inI s.1) (h2 : inI s.2) :
  (Instr.lookup 89 (.map (some b)) (spV s) false).run Tryd.prog W = .ok (colV ((zbq L s).getD (0, 0))) W := by
 obtain ⟨l, hl⟩ := spKey s h1 h2; obtain ⟨D, ho, hd⟩ := h.own; rw [omap_look ho spLaw Tryd.underlying89 (by kernel_rfl) hl, (hd s l hl).2]
theorem Holds.look_ok {W : World} {b n : Nat} {L : List Ent} (h : Holds W b n L) (s : Int × Int) (h1 : inI s.1) (h2 : inI s.2) :
  (Instr.lookup 89 (.map (some b)) (spV s) true).run Tryd.prog W = .ok (.tuple #[colV ((zbq L s).getD (0, 0)), .bool (zbq L s).isSome]) W := by
 obtain ⟨l, hl⟩ := spKey s h1 h2; obtain ⟨D, ho, hd⟩ := h.own; rw [omap_look_ok ho spLaw Tryd.underlying89 (by kernel_rfl) hl, (hd s l hl).2, (hd s l hl).1]
theorem Holds.store {W : World} {b n : Nat} {L : List Ent} (h : Holds W b n L) (s c : Int × Int) (h1 : inI s.1) (h2 : inI s.2) (hn : n < maxLen) (hf : zbq L s = none) :
  ∃ W', (Instr.mapUpdate 89 (.map (some b)) (spV s) (colV c)).run Tryd.prog W = .ok () W' ∧ Holds W' b (n + 1) (L ++ [(s, c)]) ∧ W.mapTurned W' b := by
 obtain ⟨l, hl⟩ := spKey s h1 h2; obtain ⟨D, ho, hd⟩ := h.own; obtain ⟨W', hr, ho', ht⟩ := omap_store (val := colV c) ho spLaw Tryd.underlying89 hn hl; refine ⟨W', hr, ⟨_, ho', fun t l' hl' => ?_⟩, ht⟩
 rw [firstOf_snoc]; by_cases e : s = t
 ·subst e
  obtain rfl : l = l' := Option.some.inj (hl.symm.trans hl'); rw [Maps.has_put_same ho.isMap (spLaw.key hl), mval_put_same ho.isMap (spLaw.key hl), hf]; simp
 ·have hne : l' ≠ l := fun e' => e (spV_inj (spLaw.inj hl (e' ▸ hl')))
  rw [Maps.has_put_other hne, mval_put_other hne, (hd t l' hl').1, (hd t l' hl').2]; simp [e]
theorem Holds.more {W : World} {b n : Nat} {L : List Ent} (h : Holds W b n L) (s c : Int × Int) (hf : (zbq L s).isSome = true) : Holds W b n (L ++ [(s, c)]) := by
 obtain ⟨D, ho, hd⟩ := h.own; refine ⟨D, ho, fun t l hl => ?_⟩
 rw [firstOf_snoc]; by_cases e : s = t
 ·subst e
  rw [(hd s l hl).1, (hd s l hl).2]; cases h : zbq L s with
  | none => rw [h] at hf; cases hf
  | some x => simp
 ·rw [(hd t l hl).1, (hd t l hl).2]
  simp [e]
theorem put_calls (bo b n : Nat) (L : List Ent) (s c : Int × Int) (W : World) (h1 : inI s.1) (h2 : inI s.2) (hn : n < maxLen) (hH : Holds W b n L) (hbo : W.heap[bo]? = some (.cells #[.map (some b)] 89 (0, 0))) (hne : b ≠ bo) :
  Calls Tryd.prog 55 #[spV s, colV c, .pointer (some ⟨bo, 0, none⟩)] W fun e W' => e = .returned (.tuple #[]) ∧ ∃ n', n' ≤ n + 1 ∧ Holds W' b n' (L ++ [(s, c)]) ∧ W.grownBy W' (some b) := by
 have HH := zaa.mk hH; have H1 := zaa.mk h1; have H2 := zaa.mk h2; have HN := zaa.mk hn; have HBO := zaa.mk hbo; clear hH h1 h2 hn hbo; go_enter Tryd.func55, Tryd.ntmps55
 go_upto_region 1 with (fail)
 obtain ⟨X1, hX1⟩ : ∃ X, X = W.alloc (.cells #[.int .i64 s.1, .int .i64 s.2] 41) := ⟨_, rfl⟩; obtain ⟨X, hX⟩ : ∃ X, X = X1.alloc (.cells #[.int .i64 c.1, .int .i64 c.2] 95) := ⟨_, rfl⟩; have s1 : X1.heap.size = W.heap.size + 1 := by rw [hX1]; simp
 have s2 : X.heap.size = W.heap.size + 2 := by rw [hX]; simp [s1]
 have b1 : Below W.heap.size W X1 := by rw [hX1]; exact zad (Below.refl _ _) _
 have b2 : Below X1.heap.size X1 X := by rw [hX]; exact zad (Below.refl _ _) _
 have k1 : X.heap[W.heap.size]? = some (.cells #[.int .i64 s.1, .int .i64 s.2] 41 (0, 0)) := zat (by rw [hX1]; exact heap_alloc_new _ _) b2
 have k2 : X.heap[W.heap.size + 1]? = some (.cells #[.int .i64 c.1, .int .i64 c.2] 95 (0, 0)) := by rw [hX, ← s1]; exact heap_alloc_new _ _
 have hb := zai b1 b2; have k0 := zat HBO.out hb; have HX := zaa.mk (HH.out.below hb); have HB := zaa.mk hb; have hlk := HX.out.look_ok s H1.out H2.out; have p1 := zaf k1 0; have p2 := zaf k1 1; have r1 := zaf k2 0; have r2 := zaf k2 1; have q0 := zaf k0 0; have l1 := zaO k1; have l2 := zaO k2; have l0 := zaO k0; simp at p1 p2 r1 r2 q0; have hus := Tryd.underlying41; have huc := Tryd.underlying95; have K0 := zaa.mk k0; have K1 := zaa.mk k1; have K2 := zaa.mk k2; change Code.wp Tryd.prog _ _ _ ((W.alloc (.cells #[.int .i64 s.1, .int .i64 s.2] 41)).alloc (.cells #[.int .i64 c.1, .int .i64 c.2] 95))
 rw [← hX1, ← hX]; clear hX1 hX s1 s2 b1 b2 k0 k1 k2 hb; cases hf : (zbq L s).isSome with
 | true =>
  rw [hf] at hlk; have HF := zaa.mk hf; clear hf; obtain ⟨cc, hcc⟩ : ∃ cc, cc = (zbq L s).getD (0, 0) := ⟨_, rfl⟩; rw [← hcc] at hlk; clear hcc; go_wp2
  exact ⟨rfl, .tuple #[], by simp [results, show Tryd.f55.results = #[] from rfl, go_sem], rfl, n, by omega, (HX.out.below (zad (Below.refl _ _) _)).more s c HF.out, zbP (zai HB.out (zad (Below.refl _ _) _)) _⟩
 | false =>
  rw [hf] at hlk; have HF := zaa.mk (show zbq L s = none by simpa using hf)
  clear hf; obtain ⟨cc, hcc⟩ : ∃ cc, cc = (zbq L s).getD (0, 0) := ⟨_, rfl⟩; rw [← hcc] at hlk; clear hcc; go_upto_region 3 with (fail)
  obtain ⟨Y, hY⟩ : ∃ Y, Y = X.alloc (.cells #[.int .i64 cc.1, .int .i64 cc.2] 95) := ⟨_, rfl⟩; have hbY : Below X.heap.size X Y := by rw [hY]; exact zad (Below.refl _ _) _
  change Code.wp Tryd.prog _ _ _ (X.alloc (.cells #[.int .i64 cc.1, .int .i64 cc.2] 95))
  rw [← hY]; obtain ⟨W6, hrun, hown, hturn⟩ := (HX.out.below hbY).store s c H1.out H2.out HN.out HF.out; have HOWN := zaa.mk hown; have HGR := zaa.mk (turned_grown hturn); have k0 := zat K0.out hbY; have k1 := zat K1.out hbY; have k2 := zat K2.out hbY; have p1 := zaf k1 0; have p2 := zaf k1 1; have r1 := zaf k2 0; have r2 := zaf k2 1; have q0 := zaf k0 0; simp at p1 p2 r1 r2 q0; have HBY := zaa.mk (zai HB.out hbY); clear hlk hY hbY hown hturn k0 k1 k2; go_wp2
  exact ⟨rfl, .tuple #[], by simp [results, show Tryd.f55.results = #[] from rfl, go_sem], rfl, n + 1, by omega, HOWN.out, World.grownBy.trans (zbP HBY.out _) HGR.out⟩
def calN (k : Int) : Int := if k = 2 then 8 else if k = 3 then 7 else 6
theorem called_calls (k : Int) (w : World) : Calls Tryd.prog 56 #[.int .u8 k] w fun e w' => e = .returned (.int .i64 (calN k)) ∧ w = w' := by
 by_cases c2 : k = 2
 ·have d2 : (k == 2) = true := by simp [c2]
  have e : calN k = 8 := by unfold calN; rw [if_pos c2]
  rw [e]; clear c2 e; go_enter Tryd.func56, Tryd.ntmps56
  go_wp2
  go_ret
  exact ⟨rfl, rfl⟩
 ·have d2 : (k == 2) = false := by simp [c2]
  by_cases c3 : k = 3
  ·have d3 : (k == 3) = true := by simp [c3]
   have e : calN k = 7 := by unfold calN; rw [if_neg c2, if_pos c3]
   rw [e]; clear c2 c3 e; go_enter Tryd.func56, Tryd.ntmps56
   go_wp2
   go_ret
   exact ⟨rfl, rfl⟩
  ·have d3 : (k == 3) = false := by simp [c3]
   have e : calN k = 6 := by unfold calN; rw [if_neg c2, if_neg c3]
   rw [e]; clear c2 c3 e; go_enter Tryd.func56, Tryd.ntmps56
   go_wp2
   go_ret
   exact ⟨rfl, rfl⟩
def entD (d : S72) : Ent := ((d.f0.f0, d.f0.f1), (calN d.f1, if d.f2 = true then 5 else 1))
def entB (ds : List S72) (b : S43) : Ent := ((b.f0.f0, b.f0.f1), if 0 ≤ b.f1 ∧ b.f1 < (ds.length : Int) then (calN (rd_T72 ds b.f1).f1, 0) else (6, 2))
def ents (ds : List S72) (bs : List S43) : List Ent := ds.map entD ++ bs.map (entB ds)
structure NS (W w : World) (xv : Array Value) (x o b n : Nat) (L : List Ent) : Prop where
 bel : Below W.heap.size W w
 box : w.heap[x]? = some (.cells xv 26 (0, 0))
 out : w.heap[o]? = some (.cells #[.map (some b)] 89 (0, 0))
 map : Holds w b n L
 lo : W.heap.size ≤ b
 ox : x ≠ b
 oo : o ≠ b
theorem NS.below {W w w' : World} {xv : Array Value} {x o b n : Nat} {L : List Ent} (h : NS W w xv x o b n L) (hb : Below w.heap.size w w') : NS W w' xv x o b n L :=
 ⟨zai h.bel hb, zat h.box hb, zat h.out hb, h.map.below hb, h.lo, h.ox, h.oo⟩
theorem NS.put {W w w' : World} {xv : Array Value} {x o b n n' : Nat} {L L' : List Ent} (h : NS W w xv x o b n L) (hm : Holds w' b n' L') (hg : w.grownBy w' (some b)) : NS W w' xv x o b n' L' :=
 ⟨h.bel.grown hg h.bel.size (fun k hk => by injection hk with hk; have := h.lo; omega), (hg.block _ (zaO h.box) (fun e => h.ox (Option.some.inj e))).trans h.box, (hg.block _ (zaO h.out) (fun e => h.oo (Option.some.inj e))).trans h.out, hm, h.lo, h.ox, h.oo⟩
theorem map_take_snoc {α β : Type} (f : α → β) (l : List α) (i : Nat) (x : α) (h : l[i]? = some x) : (l.take (i + 1)).map f = (l.take i).map f ++ [f x] := by
 rw [List.take_add_one, h, List.map_append]
 rfl
theorem rd72_at (l : List S72) (i : Nat) (h : i < l.length) : l[i]? = some (rd_T72 l (i : Int)) := by
 unfold rd_T72
 rw [Int.toNat_natCast, List.getD_eq_getElem?_getD, List.getElem?_eq_getElem h]
 rfl
theorem rd43_at (l : List S43) (i : Nat) (h : i < l.length) : l[i]? = some (rd_T43 l (i : Int)) := by
 unfold rd_T43
 rw [Int.toNat_natCast, List.getD_eq_getElem?_getD, List.getElem?_eq_getElem h]
 rfl
def inDs (ds : List S72) : Prop := ∀ d ∈ ds, inI d.f0.f0 ∧ inI d.f0.f1
def inBs (bs : List S43) : Prop := ∀ d ∈ bs, inI d.f0.f0 ∧ inI d.f0.f1
theorem names_calls (Ad : Option Addr) (cd : Nat) (ds : List S72) (Ab : Option Addr) (cb : Nat) (bs : List S43) (W : World) (hd : Kd.C k72 W Ad ds.length ds) (hb : Kd.C k43 W Ab bs.length bs) (hdi : inDs ds) (hbi : inBs bs) (hn : ds.length + bs.length ≤ 1000000) :
  Calls Tryd.prog 28 #[.agg #[.slice Ad ds.length cd, .slice Ab bs.length cb]] W fun e W' => ∃ b n, e = .returned (.map (some b)) ∧ Holds W' b n (ents ds bs) ∧ W.heap.size ≤ b ∧ Below W.heap.size W W' := by
 have HD := zaa.mk hd; have HB := zaa.mk hb; have HDI := zaa.mk hdi; have HBI := zaa.mk hbi; have HN := zaa.mk hn; clear hd hb hdi hbi hn; have hmm := @run_makeMap Tryd.prog; go_enter Tryd.func28, Tryd.ntmps28
 go_upto_region 3 with (fail)
 obtain ⟨V1, hV1⟩ : ∃ X, X = W.alloc (.cells #[.slice Ad ds.length cd, .slice Ab bs.length cb] 26) := ⟨_, rfl⟩; obtain ⟨V2, hV2⟩ : ∃ X, X = V1.alloc (.map #[] 0) := ⟨_, rfl⟩; obtain ⟨V, hV⟩ : ∃ X, X = V2.alloc (.cells #[.map (some (W.heap.size + 1))] 89) := ⟨_, rfl⟩; have s1 : V1.heap.size = W.heap.size + 1 := by rw [hV1]; simp
 have s2 : V2.heap.size = W.heap.size + 2 := by rw [hV2]; simp [s1]
 have e1 : Below W.heap.size W V1 := by rw [hV1]; exact zad (Below.refl _ _) _
 have e2 : Below V1.heap.size V1 V2 := by rw [hV2]; exact zad (Below.refl _ _) _
 have e3 : Below V2.heap.size V2 V := by rw [hV]; exact zad (Below.refl _ _) _
 have hH : Holds V2 V1.heap.size 0 [] := by rw [hV2]; exact Holds.start V1
 rw [s1] at hH; have HV := zaa.mk (show NS W V #[.slice Ad ds.length cd, .slice Ab bs.length cb] W.heap.size (W.heap.size + 1 + 1) (W.heap.size + 1) 0 [] from
  ⟨zai e1 (zai e2 e3), zat (by rw [hV1]; exact heap_alloc_new _ _) (zai e2 e3), by rw [hV, show W.heap.size + 1 + 1 = V2.heap.size by omega]; exact heap_alloc_new _ _, hH.below e3, by omega, by omega, by omega⟩)
 change Code.wp Tryd.prog _ _ _ (((W.alloc (.cells #[.slice Ad ds.length cd, .slice Ab bs.length cb] 26)).alloc (.map #[] 0)).alloc (.cells #[.map (some (W.heap.size + 1))] 89))
 rw [← hV1, ← hV2, ← hV]; clear hV1 hV2 hV s1 s2 e1 e2 e3 hH; obtain ⟨bm, hbm⟩ : ∃ b, b = W.heap.size + 1 := ⟨_, rfl⟩; obtain ⟨bo, hbo⟩ : ∃ b, b = W.heap.size + 1 + 1 := ⟨_, rfl⟩; obtain ⟨bx, hbx⟩ : ∃ b, b = W.heap.size := ⟨_, rfl⟩; have HLO := zaa.mk (show W.heap.size ≤ bm by omega)
 rw [← hbo, ← hbm] at HV; rw [← hbo, ← hbm]; rw [show NS W V #[.slice Ad ds.length cd, .slice Ab bs.length cb] W.heap.size bo bm 0 [] = NS W V #[.slice Ad ds.length cd, .slice Ab bs.length cb] bx bo bm 0 [] by rw [hbx]] at HV
 rw [show (Value.pointer (some { block := W.heap.size, off := 0 })) = Value.pointer (some { block := bx, off := 0 }) by rw [hbx]]
 clear hbo hbm hbx; have hsv := HV.out.box; have x0 := zaf hsv 0; simp at x0; clear hsv hmm; have hus := Tryd.underlying41; have huc := Tryd.underlying95; have hud := Tryd.underlying72; have hub := Tryd.underlying43; go_wp2_with fail
 clear x0; go_loopg [15] ds.length (fun kq v15 w' => ∃ i n : Nat, v15 = .int .i64 i ∧ i ≤ ds.length ∧ zaa (n ≤ i) ∧ zaa (kq = ds.length - i) ∧ zaa (NS W w' #[.slice Ad ds.length cd, .slice Ab bs.length cb] bx bo bm n ((ds.take i).map entD)))
 case atStart => exact ⟨0, 0, rfl, Nat.zero_le _, ⟨Nat.le_refl _⟩, ⟨rfl⟩, HV⟩
 case round =>
  clear HV; obtain ⟨i, n, rfl, hi, HNI, HK, HV⟩ := hrel; have hN := HN.out; by_cases hlt : i < ds.length
  ·obtain ⟨ad, e0, c0, c1, c2, c3⟩ := at_T72 (Kd.zaT HD.out HV.out.bel) (i : Int) (by omega) (by omega)
   subst e0; rw [Int.toNat_natCast] at c0 c1 c2 c3; have HIN := zaa.mk (HDI.out _ (List.mem_of_getElem? (rd72_at ds i hlt))); have HSN := zaa.mk (map_take_snoc entD ds i _ (rd72_at ds i hlt)); obtain ⟨d, hd_⟩ : ∃ d, d = rd_T72 ds (i : Int) := ⟨_, rfl⟩; rw [← hd_] at c0 c1 c2 c3 HIN HSN; clear hd_; obtain ⟨⟨df, dt⟩, dk, da⟩ := d; simp only at c0 c1 c2 c3; go_upto_region 7 with (go_at_call 56; refine (called_calls dk _).mono ?_; rintro e w1 ⟨rfl, rfl⟩)
   obtain ⟨X1, hX1⟩ : ∃ X, X = wr.alloc (.cells #[.int .i64 df, .int .i64 dt, .int .u8 dk, .bool da] 72) := ⟨_, rfl⟩; obtain ⟨X, hX⟩ : ∃ X, X = X1.alloc (.cells #[.int .i64 (calN dk), .int .i64 1] 95) := ⟨_, rfl⟩; have s1 : X1.heap.size = wr.heap.size + 1 := by rw [hX1]; simp
   have e1 : Below wr.heap.size wr X1 := by rw [hX1]; exact zad (Below.refl _ _) _
   have e2 : Below X1.heap.size X1 X := by rw [hX]; exact zad (Below.refl _ _) _
   have k1 : X.heap[wr.heap.size]? = some (.cells #[.int .i64 df, .int .i64 dt, .int .u8 dk, .bool da] 72 (0, 0)) := zat (by rw [hX1]; exact heap_alloc_new _ _) e2
   have k2 : X.heap[wr.heap.size + 1]? = some (.cells #[.int .i64 (calN dk), .int .i64 1] 95 (0, 0)) := by rw [hX, ← s1]; exact heap_alloc_new _ _
   change Code.wp Tryd.prog _ _ _ ((wr.alloc (.cells #[.int .i64 df, .int .i64 dt, .int .u8 dk, .bool da] 72)).alloc (.cells #[.int .i64 (calN dk), .int .i64 1] 95))
   rw [← hX1, ← hX]; have HVX := zaa.mk (HV.out.below (zai e1 e2)); have HBX := zaa.mk (show ∀ q, q < wr.heap.size → X.heap[q]? = wr.heap[q]? from (zai e1 e2).block)
   have K1 := zaa.mk k1; have K2 := zaa.mk k2; have q0 := zaf k1 0; have q1 := zaf k1 1; have q3 := zaf k1 3; have r0 := zaf k2 0; have r1 := zaf k2 1; have f1 := zab k2 1; have l1 := zaO k1; have l2 := zaO k2; simp at q0 q1 q3 r0 r1; clear hX1 hX s1 e1 e2 k1 k2 c0 c1 c2 c3; cases da with
   | true =>
    have hbits : bits BinOp.or IntKind.i64 1 4 = 5 := by kernel_rfl
    go_upto_region 9 with (fail)
    obtain ⟨Y, hY⟩ : ∃ Y, Y = X.setCell ⟨wr.heap.size + 1, 1, none⟩ (.int .i64 5) := ⟨_, rfl⟩; have k2 := zbt K2.out 1 (.int .i64 5); have k1 : Y.heap[wr.heap.size]? = _ := (show Y.heap[wr.heap.size]? = X.heap[wr.heap.size]? by rw [hY]; exact Below.heap_setCell _ _ _ _ (by show wr.heap.size ≠ wr.heap.size + 1; omega)).trans K1.out
    rw [← hY] at k2; have HVY := zaa.mk (show NS W Y #[.slice (some ad) ds.length cd, .slice Ab bs.length cb] bx bo bm n ((ds.take i).map entD) from HV.out.below (by
     have hb : Below wr.heap.size wr X := ⟨HVX.out.bel.os.trans HV.out.bel.os.symm, HVX.out.bel.tape.trans HV.out.bel.tape.symm, HVX.out.bel.output.trans HV.out.bel.output.symm, by have := zaO K1.out; omega, HBX.out⟩
     rw [hY]; exact hb.setCell (by show wr.heap.size ≤ wr.heap.size + 1; omega) _))
    change Code.wp Tryd.prog _ _ _ (X.setCell ⟨wr.heap.size + 1, 1, none⟩ (.int .i64 5))
    rw [← hY]; have q0 := zaf k1 0; have q1 := zaf k1 1; have r0 := zaf k2 0; have r1 := zaf k2 1; simp at q0 q1 r0 r1; clear hY k1 k2 hbits q3 f1; go_wp2_with (go_at_call 55; refine (put_calls bo bm n _ (df, dt) (calN dk, 5) _ HIN.out.1 HIN.out.2 (by have := HNI.out; unfold maxLen; omega) HVY.out.map HVY.out.out (fun e => HVY.out.oo e.symm)).mono ?_; rintro e w5 ⟨rfl, n', hn', hm', hg'⟩; have HV5 := zaa.mk (HVY.out.put hm' hg'); have HN5 := zaa.mk hn'; clear hm' hg' hn')
    go_roundg (ds.length - (i + 1))
    case measure => have := HK.out; omega
    case rel => exact ⟨i + 1, n', by go_num, by omega, ⟨by have := HN5.out; have := HNI.out; omega⟩, ⟨rfl⟩, ⟨by rw [HSN.out]; exact HV5.out⟩⟩
   | false =>
    go_wp2_with (go_at_call 55; refine (put_calls bo bm n _ (df, dt) (calN dk, 1) _ HIN.out.1 HIN.out.2 (by have := HNI.out; unfold maxLen; omega) HVX.out.map HVX.out.out (fun e => HVX.out.oo e.symm)).mono ?_; rintro e w5 ⟨rfl, n', hn', hm', hg'⟩; have HV5 := zaa.mk (HVX.out.put hm' hg'); have HN5 := zaa.mk hn'; clear hm' hg' hn')
    go_roundg (ds.length - (i + 1))
    case measure => have := HK.out; omega
    case rel => exact ⟨i + 1, n', by go_num, by omega, ⟨by have := HN5.out; have := HNI.out; omega⟩, ⟨rfl⟩, ⟨by rw [HSN.out]; exact HV5.out⟩⟩
  ·have hie : i = ds.length := by omega
   subst hie; have HL := zaa.mk (show (ds.take ds.length).map entD = ds.map entD by rw [List.take_length])
   rw [HL.out] at HV; have hsv := HV.out.box; have x1 := zaf hsv 1; simp at x1; have HNI0 := zaa.mk (show n ≤ ds.length from HNI.out)
   clear hsv HL; go_wp2_with fail
   have HVO := HV; clear x1 HV HNI HK; obtain ⟨n0, hn0⟩ : ∃ n0, n0 = n := ⟨_, rfl⟩; go_loopg [38] bs.length (fun kq v38 w' => ∃ i n : Nat, v38 = .int .i64 i ∧ i ≤ bs.length ∧ zaa (n ≤ ds.length + i) ∧ zaa (kq = bs.length - i) ∧ zaa (NS W w' #[.slice Ad ds.length cd, .slice Ab bs.length cb] bx bo bm n (ds.map entD ++ (bs.take i).map (entB ds))))
   case atStart => exact ⟨0, n, rfl, Nat.zero_le _, ⟨by rw [Nat.add_zero]; exact HNI0.out⟩, ⟨rfl⟩, ⟨by rw [List.take_zero, List.map_nil, List.append_nil]; exact HVO.out⟩⟩
   case round =>
    clear HVO hn0; obtain ⟨i, n, rfl, hi, HNI, HK, HV⟩ := hrel; have hN := HN.out; by_cases hlt : i < bs.length
    ·obtain ⟨ab, e0, c0, c1, c2⟩ := at_T43 (Kd.zaT HB.out HV.out.bel) (i : Int) (by omega) (by omega)
     subst e0; rw [Int.toNat_natCast] at c0 c1 c2; have HIN := zaa.mk (HBI.out _ (List.mem_of_getElem? (rd43_at bs i hlt))); have HSN := zaa.mk (show ds.map entD ++ (bs.take (i + 1)).map (entB ds) = (ds.map entD ++ (bs.take i).map (entB ds)) ++ [entB ds (rd_T43 bs (i : Int))] by rw [map_take_snoc (entB ds) bs i _ (rd43_at bs i hlt), List.append_assoc])
     obtain ⟨d, hd_⟩ : ∃ d, d = rd_T43 bs (i : Int) := ⟨_, rfl⟩; rw [← hd_] at c0 c1 c2 HIN HSN; clear hd_; obtain ⟨⟨df, dt⟩, dd⟩ := d; simp only at c0 c1 c2; obtain ⟨X, hX⟩ : ∃ X, X = wr.alloc (.cells #[.int .i64 df, .int .i64 dt, .int .i64 dd] 43) := ⟨_, rfl⟩; have hbX : Below wr.heap.size wr X := by rw [hX]; exact zad (Below.refl _ _) _
     have k1 : X.heap[wr.heap.size]? = some (.cells #[.int .i64 df, .int .i64 dt, .int .i64 dd] 43 (0, 0)) := by rw [hX]; exact heap_alloc_new _ _
     have HVX := zaa.mk (HV.out.below hbX); have q0 := zaf k1 0; have q1 := zaf k1 1; have q2 := zaf k1 2; have l1 := zaO k1; have hsv := HVX.out.box; have x0 := zaf hsv 0; have lx := zaO hsv; simp at q0 q1 q2 x0; have K1 := zaa.mk k1; have HX := zaa.mk hX; clear hX hbX k1 hsv; go_upto_region 14 with (fail)
     change Code.wp Tryd.prog _ _ _ (wr.alloc (.cells #[.int .i64 df, .int .i64 dt, .int .i64 dd] 43))
     rw [← HX.out]; clear c0 c1 c2; by_cases hdn : dd < 0
     ·have HEN := zaa.mk (show entB ds ⟨⟨df, dt⟩, dd⟩ = ((df, dt), (6, 2)) by unfold entB; rw [if_neg (by simp only; omega)])
      go_wp2_with (go_at_call 55; refine (put_calls bo bm n _ (df, dt) (6, 2) _ HIN.out.1 HIN.out.2 (by have := HNI.out; unfold maxLen; omega) HVX.out.map HVX.out.out (fun e => HVX.out.oo e.symm)).mono ?_; rintro e w5 ⟨rfl, n', hn', hm', hg'⟩; have HV5 := zaa.mk (HVX.out.put hm' hg'); have HN5 := zaa.mk hn'; clear hm' hg' hn')
      go_roundg (bs.length - (i + 1))
      case measure => have := HK.out; omega
      case rel => exact ⟨i + 1, n', by go_num, by omega, ⟨by have := HN5.out; have := HNI.out; omega⟩, ⟨rfl⟩, ⟨by rw [HSN.out, show entB ds ⟨⟨df, dt⟩, dd⟩ = ((df, dt), (6, 2)) from HEN.out]; exact HV5.out⟩⟩
     ·by_cases hdl : dd < (ds.length : Int)
      ·obtain ⟨j, hj⟩ : ∃ j : Nat, dd = (j : Int) := ⟨dd.toNat, by omega⟩
       subst hj; have hjl : j < ds.length := by omega
       obtain ⟨ad, ea, _, _, d1, _⟩ := at_T72 (Kd.zaT HD.out HVX.out.bel) (j : Int) (by omega) (by omega)
       subst ea; rw [Int.toNat_natCast] at d1; obtain ⟨dk, hdk⟩ : ∃ k, k = (rd_T72 ds (j : Int)).f1 := ⟨_, rfl⟩; rw [← hdk] at d1; have HEN := zaa.mk (show entB ds ⟨⟨df, dt⟩, (j : Int)⟩ = ((df, dt), (calN dk, 0)) by unfold entB; rw [if_pos (by simp only; omega)]; simp only; rw [hdk])
       have HD1 := zaa.mk d1; clear hdk d1; go_upto_region 15 with (fail)
       obtain ⟨Xd, hXd⟩ : ∃ Xd, Xd = X.drew := ⟨_, rfl⟩; have HBD := zaa.mk (show Below X.heap.size X Xd by rw [hXd]; exact (Below.refl _ _).drew)
       refine wp_region_noPanic (zbn [0, 1, 2, 3, 4, 5, 6, 7, 8, 9, 10, 11, 12] (fun W' => W'.cell? ⟨bx, 0, none⟩ = some (.slice (some ad) ds.length cd) ∧ W'.cell? ⟨wr.heap.size, 0, none⟩ = some (.int .i64 df) ∧ W'.cell? ⟨wr.heap.size, 1, none⟩ = some (.int .i64 dt) ∧ W'.cell? ⟨wr.heap.size, 2, none⟩ = some (.int .i64 (j : Int)) ∧ W'.cell? ⟨(ad.add (j * 4)).block, (ad.add (j * 4)).off + 2, none⟩ = some (.int .u8 dk)) (by kernel_rfl) ?_)
       rw [← hXd]; have HVD := zaa.mk (HVX.out.below HBD.out); have HS0 := zaa.mk (show Xd.cell? ⟨bx, 0, none⟩ = some (.slice (some ad) ds.length cd) ∧ Xd.cell? ⟨wr.heap.size, 0, none⟩ = some (.int .i64 df) ∧ Xd.cell? ⟨wr.heap.size, 1, none⟩ = some (.int .i64 dt) ∧ Xd.cell? ⟨wr.heap.size, 2, none⟩ = some (.int .i64 (j : Int)) ∧ Xd.cell? ⟨(ad.add (j * 4)).block, (ad.add (j * 4)).off + 2, none⟩ = some (.int .u8 dk) from ⟨by rw [hXd]; exact x0, by rw [hXd]; exact q0, by rw [hXd]; exact q1, by rw [hXd]; exact q2, by rw [hXd]; exact HD1.out⟩)
       have HLD := zaa.mk (show (ad.add (j * 4)).block < W.heap.size from ?_)
       rotate_left
       ·have hc := Kd.C_lt HD.out (by omega) (by decide)
        rw [add_block]; exact hc
       clear hXd x0 q0 q1 q2; refine zah 0 rfl HS0.out (fun _ h => by obtain ⟨s0, s1, s2, s3, s4⟩ := h; go_simp; try rfl) ?_
       simp only [Act.put, zaj]; refine zah 1 rfl HS0.out (fun _ h => by obtain ⟨s0, s1, s2, s3, s4⟩ := h; go_simp; try rfl) ?_
       simp only [Act.put, zaj]; refine zah 2 rfl HS0.out (fun _ h => by obtain ⟨s0, s1, s2, s3, s4⟩ := h; go_simp; try rfl) ?_
       simp only [Act.put, zaj]; refine zah 3 rfl HS0.out (fun _ h => by obtain ⟨s0, s1, s2, s3, s4⟩ := h; go_simp; try rfl) ?_
       simp only [Act.put, zaj]; refine zah 4 rfl HS0.out (fun _ h => by obtain ⟨s0, s1, s2, s3, s4⟩ := h; go_simp; try rfl) ?_
       simp only [Act.put, zaj]; refine zah 5 rfl HS0.out (fun _ h => by obtain ⟨s0, s1, s2, s3, s4⟩ := h; go_simp; try rfl) ?_
       simp only [Act.put, zaj]; refine zah 6 rfl HS0.out (fun _ h => by obtain ⟨s0, s1, s2, s3, s4⟩ := h; go_simp; try rfl) ?_
       simp only [Act.put, zaj]; refine zah 7 rfl HS0.out (fun _ h => by obtain ⟨s0, s1, s2, s3, s4⟩ := h; go_simp; try rfl) ?_
       simp only [Act.put, zaj]; refine zah 8 rfl HS0.out (fun _ h => by obtain ⟨s0, s1, s2, s3, s4⟩ := h; go_simp; try rfl) ?_
       simp only [Act.put, zaj]; refine zah 9 rfl HS0.out (fun _ h => by obtain ⟨s0, s1, s2, s3, s4⟩ := h; go_simp; try rfl) ?_
       simp only [Act.put, zaj]; refine zaN (i := 10) rfl (by kernel_rfl) (fun K hK => ?_)
       go_simp
       refine (called_calls dk _).mono ?_
       rintro e w4 ⟨rfl, rfl⟩
       refine hK.out _ _ (fun _ => HS0.out) (fun _ => ?_)
       clear hK K; try simp only [Act.put, zaj]
       refine zaN (i := 11) rfl (by kernel_rfl) (fun K hK => ?_)
       go_simp
       refine hK.out _ _ (fun _ => HS0.out) (fun _ => ?_)
       clear hK K; try simp only [Act.put, zaj]
       refine zaN (i := 12) rfl (by kernel_rfl) (fun K hK => ?_)
       go_simp
       refine (put_calls bo bm n _ (df, dt) (calN dk, 0) _ HIN.out.1 HIN.out.2 (by have := HNI.out; unfold maxLen; omega) HVD.out.map HVD.out.out (fun e => HVD.out.oo e.symm)).mono ?_; rintro e w5 ⟨rfl, n', hn', hm', hg'⟩; have HV5 := zaa.mk (HVD.out.put hm' hg'); have HN5 := zaa.mk hn'
       have hsv := HV5.out.box; have x0 := zaf hsv 0; have k5 := (hg'.block _ (show wr.heap.size < Xd.heap.size by have := zaO K1.out; have := HBD.out.size; omega) (fun e => by have := HV.out.map.lt; injection e with e; omega)).trans (zat K1.out HBD.out)
       have q0 := zaf k5 0; have q1 := zaf k5 1; have q2 := zaf k5 2; simp at x0 q0 q1 q2; have q4 : w5.cell? ⟨(ad.add (j * 4)).block, (ad.add (j * 4)).off + 2, none⟩ = some (.int .u8 dk) := (HV5.out.bel.cell (p := ⟨(ad.add (j * 4)).block, (ad.add (j * 4)).off + 2, none⟩) HLD.out).trans ((HVD.out.bel.cell (p := ⟨(ad.add (j * 4)).block, (ad.add (j * 4)).off + 2, none⟩) HLD.out).symm.trans HS0.out.2.2.2.2); have HS1 := zaa.mk (show w5.cell? ⟨bx, 0, none⟩ = some (.slice (some ad) ds.length cd) ∧ w5.cell? ⟨wr.heap.size, 0, none⟩ = some (.int .i64 df) ∧ w5.cell? ⟨wr.heap.size, 1, none⟩ = some (.int .i64 dt) ∧ w5.cell? ⟨wr.heap.size, 2, none⟩ = some (.int .i64 (j : Int)) ∧ w5.cell? ⟨(ad.add (j * 4)).block, (ad.add (j * 4)).off + 2, none⟩ = some (.int .u8 dk) from ⟨x0, q0, q1, q2, q4⟩)
       clear hm' hg' hn' hsv k5 x0 q0 q1 q2 q4; refine hK.out _ _ (fun _ => HS1.out) (fun _ => ?_)
       clear hK K; try simp only [Act.put, zaj]
       refine zbb (by kernel_rfl) (NoPanic.normal ?_) _
       go_wp2_with fail
       go_roundg (bs.length - (i + 1))
       case measure => have := HK.out; omega
       case rel => exact ⟨i + 1, n', by go_num, by omega, ⟨by have := HN5.out; have := HNI.out; omega⟩, ⟨rfl⟩, ⟨by rw [HSN.out, show entB ds ⟨⟨df, dt⟩, (j : Int)⟩ = ((df, dt), (calN dk, 0)) from HEN.out]; exact HV5.out⟩⟩
      ·have HEN := zaa.mk (show entB ds ⟨⟨df, dt⟩, dd⟩ = ((df, dt), (6, 2)) by unfold entB; rw [if_neg (by simp only; omega)])
       go_wp2_with (go_at_call 55; refine (put_calls bo bm n _ (df, dt) (6, 2) _ HIN.out.1 HIN.out.2 (by have := HNI.out; unfold maxLen; omega) HVX.out.map HVX.out.out (fun e => HVX.out.oo e.symm)).mono ?_; rintro e w5 ⟨rfl, n', hn', hm', hg'⟩; have HV5 := zaa.mk (HVX.out.put hm' hg'); have HN5 := zaa.mk hn'; clear hm' hg' hn')
       go_roundg (bs.length - (i + 1))
       case measure => have := HK.out; omega
       case rel => exact ⟨i + 1, n', by go_num, by omega, ⟨by have := HN5.out; have := HNI.out; omega⟩, ⟨rfl⟩, ⟨by rw [HSN.out, show entB ds ⟨⟨df, dt⟩, dd⟩ = ((df, dt), (6, 2)) from HEN.out]; exact HV5.out⟩⟩
    ·have hie : i = bs.length := by omega
     subst hie; have HL2 := zaa.mk (show ds.map entD ++ (bs.take bs.length).map (entB ds) = ents ds bs by rw [List.take_length]; rfl)
     rw [HL2.out] at HV; have hsv := HV.out.out; have o0 := zaf hsv 0; have lo := zaO hsv; simp at o0; clear hsv HL2; go_wp2_with fail
     go_ret
     exact ⟨bm, n, rfl, HV.out.map, HLO.out, HV.out.bel⟩
end Go.Proofs.YtobgkpnigjfhmaaDoor.H
namespace Go.Proofs.YtobgkpnigjfhmaaDoor.H
open Go.RowKit Go.Shelf Go.Proofs.YtobgkpnigjfhmaaDoorW.PrintWords Go.Proofs.YtobgkpnigjfhmaaDoorW.PrintLast Go.Proofs.YtobgkpnigjfhmaaDoorW.PrintMore
section
attribute [local go_sem] Oper.semAt_some
def fr (bx : List Nat) (W : World) (k : Nat) : Prop := ∃ b, b ∈ bx ∧ ∃ v, W.cell? ⟨b, 0, none⟩ = some v ∧ v.ownBlock = some k
def Valid (bx : List Nat) (W : World) : Prop := ∀ k, fr bx W k → k < W.heap.size
theorem fr.below {bx : List Nat} {B : Nat} (hbx : ∀ b ∈ bx, b < B) {W W1 : World} (hB : B ≤ W.heap.size) (h : Below W.heap.size W W1) {k : Nat} (hf : fr bx W1 k) : fr bx W k := by
 obtain ⟨b, hb, v, hv, ho⟩ := hf; have hlt := hbx b hb; exact ⟨b, hb, v, by rw [← h.cell (p := ⟨b, 0, none⟩) (show b < W.heap.size by omega)]; exact hv, ho⟩
structure Kp (n0 B : Nat) (bx : List Nat) (W W' : World) : Prop where
 low : Below n0 W W'
 high : ∀ (k : Nat) (cs : Array Value) (t : TypeId) (fz : Nat × Nat), B ≤ k → ¬ fr bx W k → W.heap[k]? = some (.cells cs t fz) → W'.heap[k]? = some (.cells cs t fz)
 own : ∀ k, fr bx W' k → fr bx W k ∨ W.heap.size ≤ k
 rest : ∀ (k : Nat) (o : Obj), B + 2 ≤ k → o.isCells = false → W.heap[k]? = some o → W'.heap[k]? = some o
theorem Kp.refl (n0 B : Nat) (bx : List Nat) (W : World) : Kp n0 B bx W W := ⟨Below.refl _ _, fun _ _ _ _ _ _ h => h, fun _ h => .inl h, fun _ _ _ _ h => h⟩
theorem Kp.notfr {n0 B : Nat} {bx : List Nat} {W W' : World} (h : Kp n0 B bx W W') {k : Nat} (hk : k < W.heap.size) (hn : ¬ fr bx W k) : ¬ fr bx W' k := fun hf => (h.own k hf).elim hn (fun h => by omega)
theorem Kp.trans {n0 B : Nat} {bx : List Nat} {W W1 W2 : World} (h : Kp n0 B bx W W1) (k : Kp n0 B bx W1 W2) : Kp n0 B bx W W2 :=
 ⟨h.low.trans k.low, fun q cs t fz hq hn hc => k.high q cs t fz hq (h.notfr (zaO hc) hn) (h.high q cs t fz hq hn hc), fun q hq => (k.own q hq).elim (h.own q) (fun h2 => .inr (Nat.le_trans h.low.size h2)), fun q o hq hc hh => k.rest q o hq hc (h.rest q o hq hc hh)⟩
theorem Kp.of_below {n0 B : Nat} {bx : List Nat} (hbx : ∀ b ∈ bx, b < B) {W W1 : World} (hn : n0 ≤ W.heap.size) (hB : B ≤ W.heap.size) (h : Below W.heap.size W W1) : Kp n0 B bx W W1 := ⟨h.mono hn, fun k cs t fz _ _ hc => (h.block k (zaO hc)).trans hc, fun k hf => .inl (fr.below hbx hB h hf), fun k o _ _ hc => (h.block k (zaO hc)).trans hc⟩
theorem below_putObj {n k : Nat} (W : World) (o : Obj) (h : n ≤ k) : Below n W (W.putObj k o) := ⟨rfl, rfl, rfl, by simp, fun q hq => World.putObj_heap_other (by omega)⟩
theorem Kp.record {n0 B : Nat} {bx : List Nat} (hbx : ∀ b ∈ bx, b < B) (hn : n0 ≤ B) (W : World) (o o' : Obj) (h : W.heap[B + 1]? = some o) (hc : o.isCells = false) : Kp n0 B bx W (W.putObj (B + 1) o') := by
 refine ⟨below_putObj W o' (by omega), fun k cs t fz hk _ hcs => ?_, fun k hf => .inl ?_, fun k q hk _ hq => ?_⟩
 ·by_cases e : k = B + 1
  ·subst e
   rw [h] at hcs; cases hcs; cases hc
  ·exact (World.putObj_heap_other e).trans hcs
 ·obtain ⟨b, hb, v, hv, ho⟩ := hf
  have hlt := hbx b hb; refine ⟨b, hb, v, ?_, ho⟩
  rw [← (below_putObj W o' (Nat.le_refl (B + 1))).cell (p := ⟨b, 0, none⟩) (show b < B + 1 by omega)]
  exact hv
 ·exact (World.putObj_heap_other (by omega)).trans hq
theorem Kp.keeps {n0 B C : Nat} {bx : List Nat} {W W' : World} (h : Kp n0 B bx W W') (hC : B + 2 ≤ C) : KeepsFrom C W W' := ⟨h.low.size, fun k o hk ho hc => h.rest k o (by omega) hc ho⟩
mutual
def AT.pre : AT → Int → Int → List (AT × Int × Int)
 | .node k w wd A c kids, f, d => (.node k w wd A c kids, f, d) :: preL kids f d
def preL : List AT → Int → Int → List (AT × Int × Int)
 | [], _, _ => []
 | T :: r, f, d => T.pre f (wrap64 (d + 1)) ++ preL r (wrap64 (f + T.wd)) d
end
def seenV (x : AT × Int × Int) : Value := .agg #[.int .u8 x.1.k, .int .u8 x.1.w, .int .i64 x.1.wd, .slice x.1.A x.1.kids.length x.1.c, .int .i64 x.2.1, .int .i64 (wrap64 (x.2.1 + x.1.wd)), .int .i64 x.2.2]
abbrev Told (W0 : World) := { x : AT × Int × Int // AtT W0 x.1 }
abbrev downV (yb db : Nat) : Value := .func (.func 70) #[] #[.pointer (some ⟨yb, 0, none⟩), .pointer (some ⟨db, 0, none⟩)]
section
variable (W0 : World) (n0 B : Nat) (bx : List Nat) (l : Nat) (Sp : List (Told W0) → Prop) (J Jx : List (Told W0) → World → Prop)
def DownPost (pre : List (Told W0)) (xs : List (AT × Int × Int)) (W : World) (e : Ending) (W' : World) : Prop :=
 (e = .returned (.bool true) ∧ Kp n0 B bx W W' ∧ W.heap.size ≤ W'.heap.size ∧ ∃ ys : List (Told W0), ys.map (·.1) = xs ∧ J (pre ++ ys) W') ∨ (e = .returned (.bool false) ∧ ∃ ys : List (Told W0), ys.map (·.1) <+: xs ∧ Jx (pre ++ ys) W')
variable (hn0 : n0 = W0.heap.size) (hB : n0 ≤ B) (hbx : ∀ b ∈ bx, b < B) (hJV : ∀ s W, J s W → Valid bx W)
 (hJ : ∀ s (W W' : World), B ≤ W.heap.size → J s W → Below W.heap.size W W' → J s W')
 (hY : ∀ m pre x W, J pre W → Sp (pre ++ [x]) → YieldAt Fence.wide m Tryd.prog l #[seenV x.1] W fun e W' =>
   (e = .returned (.bool true) ∧ J (pre ++ [x]) W' ∧ Kp n0 B bx W W') ∨ (e = .returned (.bool false) ∧ Jx (pre ++ [x]) W' ∧ Kp n0 B bx W W'))
include hn0 hB hbx hJV hJ hY
theorem down_in (z : Nat) : ∀ (T : AT), SizeOf.sizeOf T < z → AtT W0 T → ∀ (f d : Int) (n : Nat) (pre : List (Told W0)) (W : World) (yb db : Nat), Below n0 W0 W → B ≤ W.heap.size → B ≤ yb → B ≤ db → ¬ fr bx W yb → ¬ fr bx W db → W.heap[yb]? = some (one1 (.func (.yield l) #[] #[]) 136) → W.heap[db]? = some (one1 (downV yb db) 137) →
  J pre W → (∀ ys : List (Told W0), ys.map (·.1) <+: T.pre f d → Sp (pre ++ ys)) →
  CallsIn Fence.wide n Tryd.prog 70 #[T.val, .int .i64 f, .int .i64 d, .pointer (some ⟨yb, 0, none⟩), .pointer (some ⟨db, 0, none⟩)] W (DownPost W0 n0 B bx J Jx pre (T.pre f d) W) := by
 induction z with
 | zero => intro T h; exact absurd h (Nat.not_lt_zero _)
 | succ z ih =>
 rintro ⟨k, w, wd, A, c, kids⟩ hz hT f d n pre W yb db hlow hBW hyb hdb hny hnd hy hd hJ0 hN
 simp only [AT.val, AT.k, AT.w, AT.wd, AT.A, AT.c, AT.kids]; have HT := zaa.mk hT; have IH := zaa.mk ih; clear ih; have hU : AtT W0 (.node k w wd A c kids) := hT; obtain ⟨W1, hW1⟩ : ∃ W1, W1 = W.alloc (.cells #[.int .u8 k, .int .u8 w, .int .i64 wd, .slice A kids.length c] 29) := ⟨_, rfl⟩; have hby := zaO hy; have hbd := zaO hd; have hbelow : Below W.heap.size W W1 := by rw [hW1]; exact zad (Below.refl _ _) _
 have hbox : W1.heap[W.heap.size]? = some (.cells #[.int .u8 k, .int .u8 w, .int .i64 wd, .slice A kids.length c] 29 (0, 0)) := by rw [hW1]; exact heap_alloc_new W _
 have hpl : Sp (pre ++ [⟨(.node k w wd A c kids, f, d), hT⟩]) := hN _ (by rw [List.map_singleton, AT.pre]; exact List.cons_prefix_cons.2 ⟨rfl, List.nil_prefix⟩)
 have HN := zaa.mk hN; clear hN; obtain ⟨fn, tmps, assign, body, hyr, hR⟩ := hY (n - 1) pre ⟨(.node k w wd A c kids, f, d), hT⟩ W1 (hJ pre W W1 hBW hJ0 hbelow) hpl; simp only [seenV, AT.k, AT.w, AT.wd, AT.A, AT.c, AT.kids] at hyr; have HR := zaa.mk hR; have HBOX := zaa.mk hbox; have HY1 := zaa.mk (zat hy hbelow); have HD1 := zaa.mk (zat hd hbelow); have HBL := zaa.mk hbelow; rw [hW1] at hyr; have ky := zaf hy 0; simp at ky; have hu := Tryd.underlying29; have hus := Tryd.underlying126; clear hR hbox hbelow hy hd; refine callsIn_of_wp Tryd.func70 rfl trivial ?_ rfl
 simp only [Tryd.ntmps70, List.size_toArray, List.length_cons, List.length_nil, Nat.reduceAdd, Nat.reduceSub, Array.replicate_succ, Array.replicate_zero, List.push_toArray, List.append_toArray, List.nil_append, List.cons_append]
 gi_wp2
 refine ⟨fun h => (by cases h), ?_⟩
 rw [← hW1]; obtain ⟨x, hx⟩ : ∃ x : Told W0, x = ⟨(.node k w wd A c kids, f, d), hT⟩ := ⟨_, rfl⟩; have HX := zaa.mk (show x.1 = (.node k w wd A c kids, f, d) by rw [hx])
 have HR2 := HR.out; rw [← hx] at HR2; refine HR2.mono ?_
 clear HR HR2 hx hyr ky; rintro e W2 (⟨rfl, hJ2, hk2⟩ | ⟨rfl, hx2, _⟩)
 case inr =>
  gi_wp2
  go_ret
  exact .inr ⟨rfl, [x], by rw [List.map_singleton, HX.out, AT.pre]; exact List.cons_prefix_cons.2 ⟨rfl, List.nil_prefix⟩, hx2⟩
 have hn0W : n0 ≤ W.heap.size := Nat.le_trans hB hBW; have hnf : ∀ k, k < W1.heap.size → (¬ fr bx W k ∨ W.heap.size ≤ k) → ¬ fr bx W1 k := fun k hk h hf => by
  have h1 := fr.below hbx hBW HBL.out hf; have h2 := hJV _ _ hJ0 k h1; rcases h with h | h
  ·exact h h1
  ·omega
 have hnB := hnf W.heap.size (zaO HBOX.out) (.inr (Nat.le_refl _)); have hnY := hnf yb (zaO HY1.out) (.inl hny); have hnD := hnf db (zaO HD1.out) (.inl hnd); have hnB2 := zaa.mk (hk2.notfr (zaO HBOX.out) hnB); have hnY2 := zaa.mk (hk2.notfr (zaO HY1.out) hnY); have hnD2 := zaa.mk (hk2.notfr (zaO HD1.out) hnD); have HK2 := zaa.mk (Kp.trans (Kp.of_below hbx hn0W hBW HBL.out) hk2); have HS2 := zaa.mk (Nat.le_trans HBL.out.size hk2.low.size); have HBOX2 := zaa.mk (hk2.high _ _ _ _ hBW hnB HBOX.out); have HY2 := zaa.mk (hk2.high _ _ _ _ hyb hnY HY1.out); have HD2 := zaa.mk (hk2.high _ _ _ _ hdb hnD HD1.out); have HL2 := zaa.mk (hlow.trans (HK2.out.low)); have HJ2 := zaa.mk hJ2; have kb3 := zaf HBOX2.out 3; simp at kb3; clear hk2 HBOX HY1 HD1 HBL hW1 hJ2 hnf hnB hnY hnD
 gi_wp2
 gi_loopg [1, 26] kids.length (fun kq v1 v26 w' => ∃ (i : Nat) (f' : Int) (ys : List (Told W0)), v26 = .int .i64 i ∧ v1 = .int .i64 f' ∧ i ≤ kids.length ∧ zaa (kq = kids.length - i) ∧ zaa (Kp n0 B bx W2 w') ∧ W2.heap.size ≤ w'.heap.size ∧ zaa (J (pre ++ x :: ys) w') ∧ zaa (preL kids f d = ys.map (·.1) ++ preL (kids.drop i) f' d))
 case atStart => exact ⟨0, f, [], rfl, rfl, Nat.zero_le _, ⟨rfl⟩, ⟨Kp.refl _ _ _ _⟩, Nat.le_refl _, ⟨by simpa using HJ2.out⟩, ⟨rfl⟩⟩
 case round =>
  clear kb3; obtain ⟨i, f', ys, rfl, rfl, hi, HK, HKp, hsz, HJJ, HP⟩ := hrel; by_cases hlt : i < kids.length
  ·have d1 : decide ((i : Int) < (kids.length : Int)) = true := decide_eq_true (by omega)
   obtain ⟨ad, rfl, g, hTk⟩ := AtT.kid hU i hlt; have hszk : SizeOf.sizeOf kids[i] < z := by
    have := List.sizeOf_lt_of_mem (List.getElem_mem hlt); simp only [AT.node.sizeOf_spec] at hz; omega
   have HP2 := zaa.mk (show preL kids f d = ys.map (·.1) ++ (kids[i].pre f' (wrap64 (d + 1)) ++ preL (kids.drop (i + 1)) (wrap64 (f' + kids[i].wd)) d) by
    rw [HP.out, List.drop_eq_getElem_cons hlt, preL])
   obtain ⟨T, hTe⟩ : ∃ T, T = kids[i] := ⟨_, rfl⟩; rw [← hTe] at g hTk hszk HP2; have hlow2 : Below W0.heap.size W0 wr := by rw [← hn0]; exact HL2.out.trans HKp.out.low
   have g' := g.below hlow2; have HBOX3 := zaa.mk (HKp.out.high _ _ _ _ hBW hnB2.out HBOX2.out); have HY3 := zaa.mk (HKp.out.high _ _ _ _ hyb hnY2.out HY2.out); have HD3 := zaa.mk (HKp.out.high _ _ _ _ hdb hnD2.out HD2.out); have hBw : B ≤ wr.heap.size := by have := HS2.out; omega
   obtain ⟨k1, w1, wd1, A1, c1, kids1⟩ := T; obtain ⟨W3, hW3⟩ : ∃ W3, W3 = wr.alloc (.cells #[.int .u8 k1, .int .u8 w1, .int .i64 wd1, .slice A1 kids1.length c1] 29) := ⟨_, rfl⟩; have hb3 : Below wr.heap.size wr W3 := by rw [hW3]; exact zad (Below.refl _ _) _
   have hs3 : wr.heap.size ≤ W3.heap.size := hb3.size; have hlen : ∀ zs : List (Told W0), zs.map (·.1) <+: (AT.node k1 w1 wd1 A1 c1 kids1).pre f' (wrap64 (d + 1)) → Sp ((pre ++ x :: ys) ++ zs) := fun zs hz => by
    have h1 := HN.out (x :: (ys ++ zs)) (by
     rw [List.map_cons, HX.out, AT.pre, HP2.out, List.map_append]; exact List.cons_prefix_cons.2 ⟨rfl, (List.prefix_append_right_inj _).2 (hz.trans (List.prefix_append _ _))⟩)
    rw [List.append_assoc, List.cons_append]; exact h1
   have hVw := hJV _ _ HJJ.out; have hnY3 : ¬ fr bx W3 yb := fun hf => HKp.out.notfr (zaO HY2.out) hnY2.out (fr.below hbx hBw hb3 hf)
   have hnD3 : ¬ fr bx W3 db := fun hf => HKp.out.notfr (zaO HD2.out) hnD2.out (fr.below hbx hBw hb3 hf)
   have hnX3 := zaa.mk (show ¬ fr bx W3 wr.heap.size from fun hf => by have := hVw _ (fr.below hbx hBw hb3 hf); omega)
   have hcall := IH.out (.node k1 w1 wd1 A1 c1 kids1) hszk hTk f' (wrap64 (d + 1)) (n - 1) (pre ++ x :: ys) W3 yb db (by rw [hn0]; exact hlow2.trans (hb3.mono hlow2.size)) (Nat.le_trans hBw hs3) hyb hdb hnY3 hnD3 (zat HY3.out hb3) (zat HD3.out hb3) (hJ _ wr W3 hBw HJJ.out hb3) hlen
   simp only [AT.val, AT.k, AT.w, AT.wd, AT.A, AT.c, AT.kids] at hcall; have HCALL := zaa.mk hcall; have hbox3 : W3.heap[wr.heap.size]? = some (.cells #[.int .u8 k1, .int .u8 w1, .int .i64 wd1, .slice A1 kids1.length c1] 29 (0, 0)) := by rw [hW3]; exact heap_alloc_new wr _
   have HB3 := zaa.mk hbox3; obtain ⟨q0, q1, q2, q3⟩ := g'; simp only [AT.k, AT.w, AT.wd, AT.A, AT.c, AT.kids] at q0 q1 q2 q3; have kd := zaf HD3.out 0; simp at kd; have hbdw := zaO HD3.out; have HKP3 := zaa.mk (HKp.out.trans (Kp.of_below hbx (Nat.le_trans hB hBw) hBw hb3)); clear hcall hbox3 hVw hnY3 hnD3 HP g hTk hszk HKp HJJ hTe
   gi_wp2
   refine ⟨trivial, fun h => (by cases h), ?_⟩
   rw [← hW3]; refine HCALL.out.mono ?_
   clear HCALL kd q0 q1 q2 q3 hW3; rintro e W4 (⟨rfl, hk4, hs4, zs, hz4, hj4⟩ | ⟨rfl, zs, hz4, hx4⟩)
   ·have kb := zaf (hk4.high _ _ _ _ hBw hnX3.out HB3.out) 2
    simp at kb; have HK4 := zaa.mk (HKP3.out.trans hk4); have HJ4 := zaa.mk hj4; have HZ4 := zaa.mk hz4; clear hk4 hj4 hz4
    gi_wp2
    gi_roundg (kids.length - (i + 1))
    case measure => have := HK.out; omega
    case rel =>
     have hm : kids.length ≤ 9223372036854775807 := by simp only [AtT] at hU; exact hU.2.1
     exact ⟨i + 1, wrap64 (f' + wd1), ys ++ zs, by rw [show wrap64 ((i : Int) + 1) = ((i + 1 : Nat) : Int) by unfold wrap64; omega], rfl, by omega, ⟨rfl⟩, HK4, by omega, ⟨by simpa using HJ4.out⟩, ⟨by rw [HP2.out, List.map_append, HZ4.out, List.append_assoc]; rfl⟩⟩
   ·have HZ4 := zaa.mk hz4
    have HX4 := zaa.mk hx4; clear hz4 hx4
    gi_wp2
    go_ret
    refine .inr ⟨rfl, x :: (ys ++ zs), ?_, by simpa using HX4.out⟩
    obtain ⟨q, hq⟩ := HZ4.out; refine ⟨q ++ preL (kids.drop (i + 1)) (wrap64 (f' + wd1)) d, ?_⟩
    rw [List.map_cons, HX.out, AT.pre, HP2.out, ← hq, List.map_append]; simp [AT.wd]
  ·have d1 : decide ((i : Int) < (kids.length : Int)) = false := decide_eq_false (by omega)
   obtain rfl : i = kids.length := by omega
   gi_wp2
   go_ret
   refine .inl ⟨rfl, HK2.out.trans HKp.out, Nat.le_trans HS2.out hsz, x :: ys, ?_, HJJ.out⟩
   rw [List.map_cons, HX.out, AT.pre, HP.out, List.drop_length, preL, List.append_nil]
end
def AT.all (T : AT) : List (AT × Int × Int) := if okB T.erase then T.pre 0 0 else []
theorem zb6 {α : Type} {base : Nat} {J : List α → World → Prop} (h : OwnFrom base J) (s : List α) (W W' : World) (hJ : J s W) (hb : Below W.heap.size W W') : J s W' :=
 h s W W' none hJ ⟨hb.os, hb.tape, hb.output, hb.size, fun k hk _ => hb.block k hk⟩ (fun r hr => by cases hr)
theorem all_stops (W0 : World) (n0 B : Nat) (hn0 : n0 = W0.heap.size) (hB : n0 ≤ B) (bx : List Nat) (hbx : ∀ b ∈ bx, b < B) (nb : Nat) (T : AT) (w : World) (hT : AtT W0 T) (hlow : Below n0 W0 w) (hBw : B ≤ w.heap.size) (hnb : w.heap[nb]? = some (.cells #[.int .u8 T.k, .int .u8 T.w, .int .i64 T.wd, .slice T.A T.kids.length T.c] 29 (0, 0))) :
  SeqStopsO Tryd.prog 69 #[.pointer (some ⟨nb, 0, none⟩)] (fun x : Told W0 => #[seenV x.1]) (Kp n0 B bx) (Valid bx) (fun ys => ys.map (·.1) = T.all) (fun pre => pre.map (·.1) <+: T.all) w := by
 intro n l J Jx W hW hJ hJx hJV hY h0
 have hnbW := zat hnb hW; have hlowW : Below n0 W0 W := hlow.trans (hW.mono (by rw [hn0]; have := hlow.size; exact this))
 have hBW : B ≤ W.heap.size := Nat.le_trans hBw hW.size; obtain ⟨W1, hW1⟩ : ∃ W1, W1 = W.alloc (.cells #[.func (.yield l) #[] #[]] 136) := ⟨_, rfl⟩; have hb1 : Below W.heap.size W W1 := by rw [hW1]; exact zad (Below.refl _ _) _
 have hyb : W1.heap[W.heap.size]? = some (one1 (.func (.yield l) #[] #[]) 136) := by rw [hW1]; exact heap_alloc_new W _
 have hnb1 := zat hnbW hb1; have hT1 : AtT W1 T := AtT.below ((hn0 ▸ hlowW : Below W0.heap.size W0 W).trans (hb1.mono (by have := (hn0 ▸ hlowW : Below W0.heap.size W0 W).size; exact this))) T hT
 have hC := C_of_AT _ T (Nat.lt_succ_self _) W1 hT1; obtain ⟨k, w1, wd, A, c, kids⟩ := T; simp only [AT.k, AT.w, AT.wd, AT.A, AT.c, AT.kids] at hnb1 hC ⊢; have hle : (zbL kids).length ≤ c := by rw [zbp]; simp only [AtT] at hT; exact hT.1
 have hright := tree_Right.calls k w1 wd A c (zbL kids) (okB ⟨k, w1, wd, zbL kids⟩) W1 (by rw [zbp]; exact hC) hle (right_prog _ _ _ _)
 rw [zbp] at hright; have HRIGHT := zaa.mk hright; have HYB := zaa.mk hyb; have HNB := zaa.mk hnb1; have HJ0 := zaa.mk (zb6 hJ [] W W1 h0 hb1); have HB1 := zaa.mk hb1; have HT := zaa.mk hT; have k0 := zaf hnbW 0; have k1 := zaf hnbW 1; have k2 := zaf hnbW 2; have k3 := zaf hnbW 3; simp [AT.k, AT.w, AT.wd, AT.A, AT.c, AT.kids] at k0 k1 k2 k3; have hlt := zaO hnbW; have hu := Tryd.underlying29; clear hright hyb hnb1 hb1 hC hT1 hnb hnbW; refine callsIn_of_wp Tryd.func69 rfl trivial ?_ rfl
 simp only [Tryd.ntmps69, List.size_toArray, List.length_cons, List.length_nil, Nat.reduceAdd, Nat.reduceSub, Array.replicate_succ, Array.replicate_zero, List.push_toArray, List.append_toArray, List.nil_append, List.cons_append]
 gi_wp2
 refine ⟨trivial, fun h => (by cases h), ?_⟩
 rw [← hW1]; refine (callsIn_wide.2 HRIGHT.out).mono ?_
 rintro e W2 ⟨rfl, hb2⟩
 have HYB2 := zaa.mk (zat HYB.out hb2); have hnb2 := zat HNB.out hb2; have HJ2 := zaa.mk (hJ _ _ _ none HJ0.out ⟨hb2.os, hb2.tape, hb2.output, hb2.size, fun k hk _ => hb2.block k hk⟩ (fun r hr => by cases hr))
 have HB2 := zaa.mk (zai HB1.out hb2); have hlt2 := zaO hnb2; have hyb2 := zaO HYB2.out; clear hb2 HYB HNB HJ0 HB1 HRIGHT hW1 k0 k1 k2 k3 hlt; cases hok : okB ⟨k, w1, wd, zbL kids⟩ with
 | false =>
  gi_wp2
  refine bodyPost_ret (results_none rfl _ _ _) rfl ?_
  exact ⟨⟨_, rfl⟩, .inl ⟨[], by rw [AT.all, AT.erase, hok]; rfl, HJ2.out⟩⟩
 | true =>
  have k0 := zaf hnb2 0; have k1 := zaf hnb2 1; have k2 := zaf hnb2 2; have k3 := zaf hnb2 3; simp at k0 k1 k2 k3; have hall : (AT.node k w1 wd A c kids).all = (AT.node k w1 wd A c kids).pre 0 0 := by rw [AT.all, AT.erase, hok, if_pos rfl]
  rw [hall] at hY; obtain ⟨W3, hW3⟩ : ∃ W3, W3 = W2.alloc (.cells #[downV W.heap.size W2.heap.size] 137) := ⟨_, rfl⟩; have hb3 : Below W2.heap.size W2 W3 := by rw [hW3]; exact zad (Below.refl _ _) _
  have hdb : W3.heap[W2.heap.size]? = some (one1 (downV W.heap.size W2.heap.size) 137) := by rw [hW3]; exact heap_alloc_new W2 _
  have hcall := down_in W0 n0 B bx l _ J Jx hn0 hB hbx hJV (fun s W W' _ h hb => zb6 hJ s W W' h hb) hY _ (.node k w1 wd A c kids) (Nat.lt_succ_self _) HT.out 0 0 (n - 1) [] W3 W.heap.size W2.heap.size
   (hlowW.trans ((zai HB2.out hb3).mono (by rw [hn0]; have := hlowW.size; omega))) (by have := HB2.out.size; have := hb3.size; omega) hBW (by have := HB2.out.size; omega) (fun hf => by have h1 := fr.below hbx (by have := HB2.out.size; omega) hb3 hf; have h2 := hJV _ _ h0 _ (fr.below hbx hBW HB2.out h1); omega) (fun hf => by have h1 := fr.below hbx (by have := HB2.out.size; omega) hb3 hf; have h2 := hJV _ _ HJ2.out _ h1; omega) (zat HYB2.out hb3) hdb (zb6 hJ [] W2 W3 HJ2.out hb3) (fun ys hy => by rw [List.nil_append]; exact hy)
  simp only [AT.val, AT.k, AT.w, AT.wd, AT.A, AT.c, AT.kids, List.nil_append] at hcall; have HCALL := zaa.mk hcall; clear hcall hnb2 hb3 hdb
  gi_wp2
  refine ⟨trivial, fun h => (by cases h), ?_⟩
  change CallsIn Fence.wide (n - 1) Tryd.prog 70 _ (W2.alloc (.cells #[downV W.heap.size W2.heap.size] 137)) _
  rw [← hW3]; refine HCALL.out.mono ?_
  clear HCALL k0 k1 k2 k3 hW3; rintro e W4 (⟨rfl, _, _, zs, hz, hj⟩ | ⟨rfl, zs, hz, hx⟩)
  ·gi_wp2
   go_end0
   exact ⟨⟨_, rfl⟩, .inl ⟨zs, by rw [hall]; exact hz, hj⟩⟩
  ·gi_wp2
   go_end0
   exact ⟨⟨_, rfl⟩, .inr ⟨zs, by rw [hall]; exact hz, hx⟩⟩
abbrev boxN (k w wd : Int) (A : Option Addr) (n c : Nat) : Obj := .cells #[.int .u8 k, .int .u8 w, .int .i64 wd, .slice A n c] 29 (0, 0)
theorem all_in (n : Nat) (k w1 wd : Int) (A : Option Addr) (m c : Nat) (w : World) :
  CallsIn Fence.wide n Tryd.prog 58 #[.agg #[.int .u8 k, .int .u8 w1, .int .i64 wd, .slice A m c]] w fun e w' => e = .returned (.func (.func 69) #[] #[.pointer (some ⟨w.heap.size, 0, none⟩)]) ∧ w' = w.alloc (boxN k w1 wd A m c) := by
 refine callsIn_of_wp Tryd.func58 rfl trivial ?_ rfl
 simp only [Tryd.ntmps58, List.size_toArray, List.length_cons, List.length_nil, Nat.reduceAdd, Nat.reduceSub, Array.replicate_succ, Array.replicate_zero, List.push_toArray, List.append_toArray, List.nil_append, List.cons_append]
 gi_wp2
 go_ret
 exact ⟨rfl, rfl⟩
theorem walkF_in (n : Nat) (k w1 wd : Int) (A : Option Addr) (m c : Nat) (w : World) :
  CallsIn Fence.wide n Tryd.prog 29 #[.agg #[.int .u8 k, .int .u8 w1, .int .i64 wd, .slice A m c]] w fun e w' => e = .returned (.func (.func 57) #[] #[.pointer (some ⟨w.heap.size, 0, none⟩)]) ∧ w' = w.alloc (boxN k w1 wd A m c) := by
 refine callsIn_of_wp Tryd.func29 rfl trivial ?_ rfl
 simp only [Tryd.ntmps29, List.size_toArray, List.length_cons, List.length_nil, Nat.reduceAdd, Nat.reduceSub, Array.replicate_succ, Array.replicate_zero, List.push_toArray, List.append_toArray, List.nil_append, List.cons_append]
 gi_wp2
 go_ret
 exact ⟨rfl, rfl⟩
theorem OwnFrom.le {β : Type} {B C : Nat} {I : β → World → Prop} (h : OwnFrom B I) (hBC : B ≤ C) : OwnFrom C I := fun s W W' row hs hg hr => h s W W' row hs hg (fun r e => ⟨by have := (hr r e).1; omega, (hr r e).2⟩)
theorem Kp.le {n0 B C : Nat} {bx : List Nat} {W W' : World} (h : Kp n0 B bx W W') (hBC : B ≤ C) : Kp n0 C bx W W' := ⟨h.low, fun k cs t fz hk hn hc => h.high k cs t fz (by omega) hn hc, h.own, fun k o hk ho hc => h.rest k o (by omega) ho hc⟩
theorem own_cells {β : Type} {B : Nat} {k : Nat} {cs : Array Value} {t : TypeId} {fz : Nat × Nat} : OwnFrom B (fun (_ : β) W => W.heap[k]? = some (.cells cs t fz)) := fun s W W' row hs hg hr =>
 (hg.block k (zaO hs) (fun e => by obtain ⟨_, o, ho, hc⟩ := hr k e.symm; rw [hs] at ho; cases ho; cases hc)).trans hs
theorem cell_eq {W W' : World} {b : Nat} {o : Nat} (h : W'.heap[b]? = W.heap[b]?) : W'.cell? ⟨b, o, none⟩ = W.cell? ⟨b, o, none⟩ := by
 unfold World.cell?
 simp only [h]
def spanV (x : AT × Int × Int) : Value := .agg #[.int .i64 x.2.1, .int .i64 (wrap64 (x.2.1 + x.1.wd))]
theorem walk_stops (W0 : World) (n0 B : Nat) (hn0 : n0 = W0.heap.size) (hB : n0 ≤ B) (bx : List Nat) (hbx : ∀ b ∈ bx, b < B) (nb : Nat) (T : AT) (w : World) (hT : AtT W0 T) (hlow : Below n0 W0 w) (hnb : w.heap[nb]? = some (boxN T.k T.w T.wd T.A T.kids.length T.c)) :
  SeqStopsO Tryd.prog 57 #[.pointer (some ⟨nb, 0, none⟩)] (fun x : Told W0 => #[spanV x.1, x.1.1.val]) (Kp n0 B bx) (fun W => Valid bx W ∧ B + 2 ≤ W.heap.size) (fun ys => ys.map (·.1) = T.all) (fun pre => pre.map (·.1) <+: T.all) w := by
 intro n l J Jx W hW hJ hJx hJV0 hY h0
 have hJV : ∀ pre W, J pre W → Valid bx W := fun pre W h => (hJV0 pre W h).1
 have hnbW := zat hnb hW; have hlowW : Below n0 W0 W := hlow.trans (hW.mono (by rw [hn0]; have := hlow.size; exact this))
 have hBW : B + 2 ≤ W.heap.size := (hJV0 _ _ h0).2; clear hJV0; obtain ⟨W1, hW1⟩ : ∃ W1, W1 = W.alloc (.cells #[.func (.yield l) #[] #[]] 121) := ⟨_, rfl⟩; have hb1 : Below W.heap.size W W1 := by rw [hW1]; exact zad (Below.refl _ _) _
 have hyb : W1.heap[W.heap.size]? = some (one1 (.func (.yield l) #[] #[]) 121) := by rw [hW1]; exact heap_alloc_new W _
 have k0 := zaf hnbW 0; have k1 := zaf hnbW 1; have k2 := zaf hnbW 2; have k3 := zaf hnbW 3; simp at k0 k1 k2 k3; have hlt := zaO hnbW; have hu := Tryd.underlying29; obtain ⟨W2, hW2⟩ : ∃ W2, W2 = W1.alloc (boxN T.k T.w T.wd T.A T.kids.length T.c) := ⟨_, rfl⟩; have hb2 : Below W1.heap.size W1 W2 := by rw [hW2]; exact zad (Below.refl _ _) _
 have hnb2 : W2.heap[W1.heap.size]? = some (boxN T.k T.w T.wd T.A T.kids.length T.c) := by rw [hW2]; exact heap_alloc_new W1 _
 have hbW2 := zai hb1 hb2; have hs1 : W1.heap.size = W.heap.size + 1 := by rw [hW1]; simp
 have hs2 : W2.heap.size = W.heap.size + 2 := by rw [hW2, World.size_alloc, hs1]
 refine callsIn_of_wp_marks Tryd.func57 rfl trivial ?_ rfl
 simp only [Tryd.ntmps57, List.size_toArray, List.length_cons, List.length_nil, Nat.reduceAdd, Nat.reduceSub, Array.replicate_succ, Array.replicate_zero, List.push_toArray, List.append_toArray, List.nil_append, List.cons_append]
 gi_wp2
 refine ⟨trivial, fun h => (by cases h), ?_⟩
 rw [← hW1]; refine (all_in _ _ _ _ _ _ _ _).mono ?_
 rintro e w' ⟨rfl, rfl⟩
 rw [← hW2]; have HYB := zaa.mk (zat hyb hb2); have HJ0 := zaa.mk (zb6 hJ [] W W2 h0 hbW2); have HL2 := zaa.mk (hlowW.trans (hbW2.mono (by omega)))
 have HNB := zaa.mk hnb2; have HBW2 := zaa.mk hbW2; have h0' := h0; have HY := zaa.mk hY; have HS1 := zaa.mk hs1; have HS2 := zaa.mk hs2; clear k0 k1 k2 k3 hnb2 hyb hY h0 hW1 hW2 hs1 hs2
 gi_wp2
 refine rangeO (w := W2) (gf := 69) (lb := #[.pointer (some ⟨W1.heap.size, 0, none⟩)]) rfl (enters_of Tryd.func69 (by kernel_rfl) rfl)
  (all_stops W0 n0 W2.heap.size hn0 (by have := HS2.out; omega) bx (fun b hb => by have := hbx b hb; have := HS2.out; omega) W1.heap.size T W2 hT HL2.out (Nat.le_refl _) HNB.out)
  (fun h k => Kp.trans h k) (fun W o o' h hc => Kp.record (fun b hb => by have := hbx b hb; have := HS2.out; omega) (by have := HS2.out; omega) W o o' h hc) (Below.refl _ _) (fun _ => rfl)
  (fun pre X => J pre X ∧ (X.heap[W.heap.size]? = some (one1 (.func (.yield l) #[] #[]) 121) ∧ ¬ fr bx X W.heap.size) ∧ W2.heap.size ≤ X.heap.size)
  (fun c pre X => c = .ret ∧ Jx pre X)
  (fun s A B row hs hg hr => ⟨(OwnFrom.le hJ (by have := HS2.out; omega)) s A B row hs.1 hg hr, ⟨own_cells s A B row hs.2.1.1 hg hr, fun hf => hs.2.1.2 (by
   obtain ⟨b, hb, v, hv, ho⟩ := hf; refine ⟨b, hb, v, ?_, ho⟩
   have hlt := hbx b hb; have h2 : B.heap[b]? = A.heap[b]? := hg.block b (by have := HS2.out; have := hs.2.2; omega) (fun e => by have := (hr b e.symm).1; have := HS2.out; omega)
   rw [← cell_eq h2]; exact hv)⟩, Nat.le_trans hs.2.2 hg.size⟩)
  (fun c s A B row hs hg hr => ⟨hs.1, (OwnFrom.le hJx (by have := HS2.out; omega)) s A B row hs.2 hg hr⟩)
  (fun pre X h => hJV pre X h.1)
  (fun Wq hbq _ => ⟨zb6 hJ [] W2 Wq HJ0.out hbq, ⟨zat HYB.out hbq, fun hf => by have := hJV _ _ h0' _ (fr.below hbx (by omega) HBW2.out (fr.below hbx (by have := HS2.out; omega) hbq hf)); omega⟩, hbq.size⟩)
  (fun x a' Ws X => ∃ b, W2.heap.size ≤ b ∧ X.heap[b]? = some (.cells #[.int .u8 x.1.1.k, .int .u8 x.1.1.w, .int .i64 x.1.1.wd, .slice x.1.1.A x.1.1.kids.length x.1.1.c, .int .i64 x.1.2.1, .int .i64 (wrap64 (x.1.2.1 + x.1.1.wd)), .int .i64 x.1.2.2] 126 (0, 0)) ∧
   a' = { tmps := #[.func (.yield l) #[] #[], .pointer (some ⟨nb, 0, none⟩), .pointer (some ⟨W.heap.size, 0, none⟩), .pointer (some ⟨b, 0, none⟩), .agg #[.int .u8 T.k, .int .u8 T.w, .int .i64 T.wd, .slice T.A T.kids.length T.c], .func (.func 69) #[] #[.pointer (some ⟨W1.heap.size, 0, none⟩)], seenV x.1, undef, undef, undef, undef, undef, undef, undef], defers := [] })
  (fun x a' Ws s A B row hs hg hr => by
   obtain ⟨b, h1, h2, h3⟩ := hs; exact ⟨b, h1, own_cells () A B row h2 hg hr, h3⟩) ?assign ?body ?done ?stop
 case assign =>
  intro l' pre x X C hlt' hi hC
  simp only [seenV]; have hup : Below X.heap.size X (X.alloc (.cells #[.int .u8 x.1.1.k, .int .u8 x.1.1.w, .int .i64 x.1.1.wd, .slice x.1.1.A x.1.1.kids.length x.1.1.c, .int .i64 x.1.2.1, .int .i64 (wrap64 (x.1.2.1 + x.1.1.wd)), .int .i64 x.1.2.2] 126)) := zad (Below.refl _ _) _; have HUP := zaa.mk hup; have HI := zaa.mk hi; clear hup hi
  gi_wp2
  refine hC _ _ ⟨HUP.out.size, fun k o _ ho _ => (HUP.out.block k (Array.getElem?_eq_some_iff.1 ho).1).trans ho⟩ (Kp.of_below (fun b hb => by have := hbx b hb; have := HS2.out; omega) (by have := HS2.out; omega) (by omega) HUP.out) ⟨zb6 hJ pre X _ HI.out.1 HUP.out, ⟨zat HI.out.2.1.1 HUP.out, fun hf => HI.out.2.1.2 (fr.below hbx (by have := HS2.out; omega) HUP.out hf)⟩, Nat.le_trans HI.out.2.2 HUP.out.size⟩ ⟨X.heap.size, HI.out.2.2, heap_alloc_new X _, rfl⟩
 case body =>
  rintro l' pre x a' Xs X hsX _ ⟨hj, ⟨hyX, hnX⟩, hszX⟩ hKX ⟨b, hb, hblk, rfl⟩ hlen
  obtain ⟨fn, tmps, assign, body, hyr, hR⟩ := HY.out (n - 1) pre x X hj hlen; simp only [spanV, AT.val] at hyr; have HR := zaa.mk hR; have HHY := zaa.mk hyX; have q0 := zaf hblk 0; have q1 := zaf hblk 1; have q2 := zaf hblk 2; have q3 := zaf hblk 3; have q4 := zaf hblk 4; have q5 := zaf hblk 5; have ky := zaf hyX 0; simp at q0 q1 q2 q3 q4 q5 ky; have hus := Tryd.underlying126; have hup := Tryd.underlying41; clear hR hyX hblk; simp only [seenV]
  gi_wp2
  refine ⟨fun h => (by cases h), ?_⟩
  refine (show RoundIn (Fence.wide.inRound l') (n - 1) _ _ _ _ _ _ _ _ from HR.out).mono ?_
  clear q0 q1 q2 q3 q4 q5 ky; have hBX : B + 2 ≤ W2.heap.size := by have := HS2.out; omega
  rintro e X' (⟨rfl, hj', hk'⟩ | ⟨rfl, hx', hk'⟩)
  ·have HJ' := zaa.mk hj'
   have HK' := zaa.mk hk'; clear hj' hk'
   gi_wp2
   exact ⟨HK'.out.keeps hBX, hKX.trans (HK'.out.le (by omega)), HJ'.out, ⟨HK'.out.high _ _ _ _ (by omega) hnX HHY.out, HK'.out.notfr (zaO HHY.out) hnX⟩, Nat.le_trans hszX HK'.out.low.size⟩
  ·have HJ' := zaa.mk hx'
   have HK' := zaa.mk hk'; clear hx' hk'
   gi_wp2
   exact ⟨HK'.out.keeps hBX, hKX.trans (HK'.out.le (by omega)), rfl, HJ'.out⟩
 case done =>
  rintro xs X hS ⟨hj, _, _⟩ hD
  have HD := zaa.mk hD; clear hD
  gi_wp2
  refine ⟨by simp, .inl ⟨_, _, rfl, run_takeDeferred HD.out, ?_⟩⟩
  exact ⟨_, results_none rfl _ _ _, ⟨_, rfl⟩, .inl ⟨xs, hS, (OwnFrom.le hJ (by have := HS2.out; omega)).putObj (B := W2.heap.size) _ hj (Nat.le_refl _) HD.out rfl⟩⟩
 case stop =>
  rintro c pre X hS ⟨rfl, hj⟩ hD
  have HD := zaa.mk hD; clear hD
  gi_wp2
  refine ⟨by simp, .inl ⟨_, _, rfl, run_takeDeferred HD.out, ?_⟩⟩
  exact ⟨_, results_none rfl _ _ _, ⟨_, rfl⟩, .inr ⟨pre, hS, (OwnFrom.le hJx (by have := HS2.out; omega)).putObj (B := W2.heap.size) _ hj (Nat.le_refl _) HD.out rfl⟩⟩
end
theorem kp_append {n0 B ob nn cv cap e g : Nat} {Wb w1 : World} {Av : Option Addr} {α : Type} {d : Kd α} {L : List α} {t : TypeId} (hob1 : n0 ≤ ob) (hob2 : ob < B) (hBW : B ≤ Wb.heap.size)
  (hov : Wb.heap[ob]? = some (.cells #[.slice Av nn cv] t (0, 0))) (hrow : d.R e Wb n0 (fun k => k ≠ ob) (.slice Av nn cv) L)
  (hg : Wb.grownBy w1 (Value.slice Av nn cv).ownBlock) (hgo : (Value.slice Av nn cv).ownBlock = some g ∨ Wb.heap.size ≤ g) :
  KeepsFrom B Wb (w1.setCell ⟨ob, 0, none⟩ (.slice (some ⟨g, 0, none⟩) (nn + 1) cap)) ∧ Kp n0 B [ob] Wb (w1.setCell ⟨ob, 0, none⟩ (.slice (some ⟨g, 0, none⟩) (nn + 1) cap)) ∧ Below n0 Wb (w1.setCell ⟨ob, 0, none⟩ (.slice (some ⟨g, 0, none⟩) (nn + 1) cap)) ∧
   (w1.setCell ⟨ob, 0, none⟩ (.slice (some ⟨g, 0, none⟩) (nn + 1) cap)).heap[ob]? = some (.cells #[.slice (some ⟨g, 0, none⟩) (nn + 1) cap] t (0, 0)) ∧ Wb.heap.size ≤ (w1.setCell ⟨ob, 0, none⟩ (.slice (some ⟨g, 0, none⟩) (nn + 1) cap)).heap.size ∧
   (∀ {v' : Value} {L' : List α}, d.R e w1 n0 (fun k => k ≠ ob) v' L' → d.R e (w1.setCell ⟨ob, 0, none⟩ (.slice (some ⟨g, 0, none⟩) (nn + 1) cap)) n0 (fun k => k ≠ ob) v' L') := by
 obtain ⟨WF, hWF⟩ : ∃ WF, WF = w1.setCell ⟨ob, 0, none⟩ (.slice (some ⟨g, 0, none⟩) (nn + 1) cap) := ⟨_, rfl⟩; rw [← hWF]; have hsz : WF.heap.size = w1.heap.size := by rw [hWF]; simp
 have hlo := zaO hov; have hno : (Value.slice Av nn cv).ownBlock ≠ some ob := fun e => hrow.1 _ e rfl
 have hoth : ∀ q, q ≠ ob → WF.heap[q]? = w1.heap[q]? := fun q hq => by rw [hWF]; exact Below.heap_setCell _ _ _ _ hq
 have hov1 : w1.heap[ob]? = some (.cells #[.slice Av nn cv] t (0, 0)) := (hg.block _ hlo (fun e => hno e.symm)).trans hov
 have hovF : WF.heap[ob]? = some (.cells #[.slice (some ⟨g, 0, none⟩) (nn + 1) cap] t (0, 0)) := by rw [hWF]; exact zbt hov1 0 _
 have hown : ∀ k, (Value.slice Av nn cv).ownBlock = some k → ∃ q cells, Wb.heap[k]? = some (.cells cells q (0, 0)) := fun k hk => by
  obtain ⟨_, _, _, q, _, cells, hc⟩ := (Kd.R_bound hrow).1 k hk; exact ⟨q, cells, hc⟩
 have hgen : ∀ k o, Wb.heap[k]? = some o → (Value.slice Av nn cv).ownBlock ≠ some k → k ≠ ob → WF.heap[k]? = some o := fun k o hk hko hkv => by
  rw [hoth k hkv, hg.block k (Array.getElem?_eq_some_iff.1 hk).1 (fun e => hko e.symm), hk]
 have hnc : ∀ k o, B ≤ k → o.isCells = false → Wb.heap[k]? = some o → WF.heap[k]? = some o := fun k o hk hc ho => by
  refine hgen k o ho (fun e => ?_) (by omega)
  obtain ⟨q, cells, h⟩ := hown k e; rw [h] at ho; cases ho; cases hc
 have hbase : ∀ k, (Value.slice Av nn cv).ownBlock = some k → n0 ≤ k := fun k hk => ((Kd.R_bound hrow).1 k hk).2.1
 have hlow : Below n0 Wb WF := by
  rw [hWF]; exact ((Below.refl _ _).grown hg (by omega) hbase).setCell hob1 _
 have hsg := hg.size; have hfrX : ∀ k, (Value.slice Av nn cv).ownBlock = some k → fr [ob] Wb k := fun k hk => ⟨_, List.mem_singleton.2 rfl, _, by rw [zaf hov 0]; rfl, hk⟩
 refine ⟨⟨by omega, fun k o hk ho hc => hnc k o hk hc ho⟩, ⟨hlow, fun k cs t' fz hk hnf hcs => ?_, fun k hf => ?_, fun k o hk hc ho => hnc k o (by omega) hc ho⟩, hlow, hovF, by omega, fun {v' L'} h => ?_⟩
 ·exact hgen k _ hcs (fun e => hnf (hfrX k e)) (by omega)
 ·obtain ⟨q, hq, u, hu', ho⟩ := hf
  rw [List.mem_singleton] at hq; subst hq; rw [zaf hovF 0] at hu'; simp at hu'; subst hu'; simp only [Value.ownBlock, Option.some.injEq] at ho; subst ho; rcases hgo with h | h
  ·exact .inl (hfrX g h)
  ·exact .inr h
 ·exact Kd.R_step h (fun k hk hlt => hoth k hk)
end Go.Proofs.YtobgkpnigjfhmaaDoor.H
namespace Go.Proofs.YtobgkpnigjfhmaaDoor.H
open Go.RowKit Go.Proofs.YtobgkpnigjfhmaaDoorW.PrintWords Go.Proofs.YtobgkpnigjfhmaaDoorW.PrintLast Go.Proofs.YtobgkpnigjfhmaaDoorW.PrintMore
def er (x : AT × Int × Int) : S29 × Int × Int := (x.1.erase, x.2)
mutual
theorem er_pre : ∀ (T : AT) (f d : Int), (T.pre f d).map er = preT T.erase f d
 | .node k w wd A c kids, f, d => by simp only [AT.pre, AT.erase, preT, List.map_cons, er_preL kids f d, er]
theorem er_preL : ∀ (l : List AT) (f d : Int), (preL l f d).map er = preTL (zbL l) f d
 | [], f, d => by simp only [preL, zbL, preTL, List.map_nil]
 | T :: r, f, d => by
  have : T.erase.f2 = T.wd := by rw [erase_f]
  simp only [preL, zbL, preTL, List.map_append, er_pre T, er_preL r, this]
end
def allT (t : S29) : List (S29 × Int × Int) := if okB t then preT t 0 0 else []
theorem er_all (T : AT) : T.all.map er = allT T.erase := by
 unfold AT.all allT
 split
 ·exact er_pre T 0 0
 ·rfl
theorem allT_length (t : S29) : (allT t).length ≤ tsize t := by
 unfold allT
 split
 ·rw [preT_length]; exact Nat.le_refl _
 ·exact Nat.zero_le _
theorem all_length (T : AT) : T.all.length ≤ tsize T.erase := by
 rw [← List.length_map (f := er), er_all]; exact allT_length _
theorem wpL_app {P : Program} {w w' : World} {ops : Array Oper} {rest : List Oper} {o : Oper} {a : Act} {Q : Exit → Act → World → Prop} {v' : Value}
  (hg : o.guard = none) (s x : Operand) (t : TypeId) (hop : o.op = Op.call { callee := Callee.builtin Builtin.append, args := #[s, x], argTypes := #[t, t] })
  (hrun : (Builtin.append_ #[t, t] o.type #[a.eval s, a.eval x]).run P w = .ok v' w') (hK : wpList P ops Q rest (a.put o.dst v') w') : wpList P ops Q (o :: rest) a w := by
 refine wpList_plain hg fun K hK' => ?_
 unfold Oper.wp execOp
 simp only [hop, resolve, invoke, builtin, Sem.run_bind, Sem.run_pure, Result.andThen_ok, List.map_toArray, List.map_cons, List.map_nil, hrun]; exact hK' _ _ hK
abbrev Sn := AT × Int × Int
abbrev rawS (x : Sn) : List Value := [.int .u8 x.1.k, .int .u8 x.1.w, .int .i64 x.1.wd, .slice x.1.A x.1.kids.length x.1.c, .int .i64 x.2.1, .int .i64 (x.2.1 + x.1.wd), .int .i64 x.2.2]
mutual
def nT : AT → Nat
 | .node _ _ _ _ _ kids => 1 + nL kids
def nL : List AT → Nat
 | [] => 0
 | T :: r => nT T + nL r
end
mutual
theorem nT_eq : ∀ T : AT, nT T = tsize T.erase
 | .node k w wd A c kids => by simp only [nT, AT.erase, tsize, nL_eq kids]
theorem nL_eq : ∀ l : List AT, nL l = lsize (zbL l)
 | [] => rfl
 | T :: r => by simp only [nL, zbL, lsize, nT_eq T, nL_eq r]
end
def wdL : List AT → Int
 | [] => 0
 | T :: r => T.wd + wdL r
mutual
def seenT : AT → Int → Int → Int → List Sn
 | .node k w wd A c kids, f, up, me => (.node k w wd A c kids, f, up) :: seenL kids f me (me + 1)
def seenL : List AT → Int → Int → Int → List Sn
 | [], _, _, _ => []
 | T :: r, f, up, me => seenT T f up me ++ seenL r (f + T.wd) up (me + nT T)
end
mutual
theorem seenT_len : ∀ (T : AT) (f up me : Int), (seenT T f up me).length = nT T
 | .node k w wd A c kids, f, up, me => by
  simp only [seenT, nT, List.length_cons, seenL_len kids]; omega
theorem seenL_len : ∀ (l : List AT) (f up me : Int), (seenL l f up me).length = nL l
 | [], f, up, me => rfl
 | T :: r, f, up, me => by simp only [seenL, nL, List.length_append, seenT_len T, seenL_len r]
end
theorem nL_take : ∀ (l : List AT) (i : Nat) (T : AT), l[i]? = some T → nL (l.take (i + 1)) = nL (l.take i) + nT T
 | [], i, T, h => by simp at h
 | x :: r, 0, T, h => by simp at h; subst h; simp [nL]
 | x :: r, i + 1, T, h => by
  have := nL_take r i T (by simpa using h)
  simp only [List.take_succ_cons, nL, this]; omega
theorem nL_mono : ∀ (l : List AT) (i : Nat), nL (l.take i) ≤ nL l
 | [], i => by simp
 | x :: r, 0 => by simp [nL]
 | x :: r, i + 1 => by
  have := nL_mono r i; simp only [List.take_succ_cons, nL]; omega
theorem nL_len : ∀ (l : List AT), l.length ≤ nL l
 | [] => Nat.le_refl _
 | .node k w wd A c kids :: r => by
  have := nL_len r; simp only [nL, nT, List.length_cons]; omega
theorem wdL_take : ∀ (l : List AT) (i : Nat) (T : AT), l[i]? = some T → wdL (l.take (i + 1)) = wdL (l.take i) + T.wd
 | [], i, T, h => by simp at h
 | x :: r, 0, T, h => by simp at h; subst h; simp [wdL]
 | x :: r, i + 1, T, h => by
  have := wdL_take r i T (by simpa using h)
  simp only [List.take_succ_cons, wdL, this]; omega
theorem seenL_take : ∀ (l : List AT) (i : Nat) (T : AT) (f up me : Int), l[i]? = some T → seenL (l.take (i + 1)) f up me = seenL (l.take i) f up me ++ seenT T (f + wdL (l.take i)) up (me + nL (l.take i))
 | [], i, T, f, up, me, h => by simp at h
 | x :: r, 0, T, f, up, me, h => by simp at h; subst h; simp [seenL, wdL, nL]
 | x :: r, i + 1, T, f, up, me, h => by
  have := seenL_take r i T (f + x.wd) up (me + nT x) (by simpa using h)
  simp only [List.take_succ_cons, seenL, this, wdL, nL, List.append_assoc, Int.add_assoc, Int.natCast_add]
theorem good_kids : ∀ (l : List AT), goodL (zbL l) → wsum (zbL l) = wdL l ∧ (∀ i, 0 ≤ wdL (l.take i) ∧ wdL (l.take i) ≤ wdL l) ∧ ∀ T ∈ l, goodT T.erase
 | [], _ => ⟨rfl, fun i => by simp [wdL], fun T h => by cases h⟩
 | x :: r, h => by
  simp only [zbL, goodL] at h; obtain ⟨h1, h2, h3⟩ := good_kids r h.2; have hx := (h.1.w); have hf : x.erase.f2 = x.wd := by cases x; rfl
  rw [hf] at hx; refine ⟨by simp only [zbL, wsum, wdL, h1, hf], fun i => ?_, fun T hT => ?_⟩
  ·cases i with
   | zero => have := h2 r.length; rw [List.take_length] at this; simp only [List.take_zero, wdL]; omega
   | succ i => have := h2 i; simp only [List.take_succ_cons, wdL]; omega
  ·rcases List.mem_cons.1 hT with rfl | hT
   ·exact h.1
   ·exact h3 T hT
theorem good_node {k w wd : Int} {A : Option Addr} {c : Nat} {kids : List AT} (h : goodT (AT.node k w wd A c kids).erase) : (0 ≤ wd ∧ wd ≤ 1099511627776) ∧ goodL (zbL kids) ∧ (∀ i, 0 ≤ wdL (kids.take i) ∧ wdL (kids.take i) ≤ wd) ∧ ∀ T ∈ kids, goodT T.erase := by
 simp only [AT.erase, goodT] at h; obtain ⟨h1, h2, h3⟩ := good_kids kids h.2.2.2.2; refine ⟨h.1, h.2.2.2.2, fun i => ?_, h3⟩
 by_cases hk : k ≤ 50
 ·have hn := h.2.1 hk
  have hn2 : kids = [] := by
   have := zbp kids; rw [hn] at this; exact List.length_eq_zero_iff.1 this.symm
  subst hn2; simp [wdL]; exact h.1.1
 ·have := h2 i
  have e := h.2.2.1 (by omega)
  omega
theorem infoSeen20 : (Tryd.prog.info? 113).map (fun i => (i.zero, i.size, i.bytes)) = some (some (.agg #[.int .u8 0, .int .u8 0, .int .i64 0, .slice none 0 0, .int .i64 0, .int .i64 0, .int .i64 0]), 7, 64) := by kernel_rfl
def OwnR (W W' : World) (v v' : Value) : Prop := W.grownBy W' v.ownBlock ∧ (v'.ownBlock = v.ownBlock ∨ ∃ b, v'.ownBlock = some b ∧ W.heap.size ≤ b)
theorem OwnR.trans {W W1 W2 : World} {v v1 v2 : Value} (h : OwnR W W1 v v1) (h2 : OwnR W1 W2 v1 v2) : OwnR W W2 v v2 := by
 obtain ⟨g1, o1⟩ := h; obtain ⟨g2, o2⟩ := h2; refine ⟨?_, ?_⟩
 ·rcases o1 with h | ⟨b, h, hb⟩
  ·exact World.grownBy.trans g1 (by rw [← h]; exact g2)
  ·exact ⟨g2.os.trans g1.os, g2.tape.trans g1.tape, g2.output.trans g1.output, Nat.le_trans g1.size g2.size, fun q hq hr => (g2.block q (Nat.lt_of_lt_of_le hq g1.size) (fun e => by rw [h] at e; injection e with e; omega)).trans (g1.block q hq hr)⟩
 ·rcases o2 with h | ⟨b, h, hb⟩
  ·rw [h]; exact o1
  ·exact .inr ⟨b, h, Nat.le_trans g1.size hb⟩
theorem OwnR.low {W0 W W' : World} {v v' : Value} {B0 : Nat} (h : OwnR W W' v v') (hl : Below W0.heap.size W0 W) (hB : W0.heap.size ≤ B0) (hv : ∀ k, v.ownBlock = some k → B0 ≤ k) : Below W0.heap.size W0 W' :=
 hl.grown h.1 hl.size (fun k hk => Nat.le_trans hB (hv k hk))
theorem zbN {n : Nat} {W0 W X : World} (h : Below n W0 W) (hX : Below W.heap.size W X) (hn : n ≤ W.heap.size) : Below n W0 X := h.grown (zbP hX none) hn (fun k hk => by cases hk)
theorem rall_calls (W0 : World) (B0 : Nat) (hB0 : W0.heap.size ≤ B0) (z : Nat) : ∀ (T : AT), SizeOf.sizeOf T < z → AtT W0 T → goodT T.erase → ∀ (f up : Int) (v : Value) (L : List Sn) (W : World), Below W0.heap.size W0 W → B0 ≤ W.heap.size →
  Kd.R (Kd.raw 7) 113 W B0 (fun q => B0 ≤ q) v (L.map rawS) → 0 ≤ f → f + T.wd ≤ 1099511627776 → L.length + nT T ≤ 1000000 →
  Calls Tryd.prog 47 #[v, T.val, .int .i64 f, .int .i64 up] W fun e W' => ∃ v', e = .returned v' ∧ Kd.R (Kd.raw 7) 113 W' B0 (fun q => B0 ≤ q) v' ((L ++ seenT T f up L.length).map rawS) ∧ OwnR W W' v v' := by
 induction z with
 | zero => intro T h; exact absurd h (Nat.not_lt_zero _)
 | succ z ih =>
 rintro ⟨k, w1, wd, A, c, kids⟩ hz hT hgd f up v L W hlow hB hR hf hfw hlen
 simp only [AT.val, AT.k, AT.w, AT.wd, AT.A, AT.c, AT.kids] at hfw ⊢; obtain ⟨hwd, _, hpre, hkg⟩ := good_node hgd; have IH := zaa.mk ih; have HZ := zaa.mk hz; have HT := zaa.mk hT; have HLOW := zaa.mk hlow; have HB := zaa.mk hB; simp only [nT] at hlen; have HLEN := zaa.mk hlen; have HPRE := zaa.mk hpre; have HKG := zaa.mk hkg; have HFW := zaa.mk (And.intro hf hfw); have hw1 : IntKind.i64.wrap (f + wd) = f + wd := IntWalk.i64_in _ ⟨by omega, by omega⟩
 obtain ⟨to_, hto⟩ : ∃ to_, to_ = f + wd := ⟨_, rfl⟩; rw [← hto] at hw1; obtain ⟨X, hX⟩ : ∃ V, V = W.alloc (.cells #[.int .u8 k, .int .u8 w1, .int .i64 wd, .slice A kids.length c] 29) := ⟨_, rfl⟩; have hbX : Below W.heap.size W X := by rw [hX]; exact zad (Below.refl _ _) _
 have HBX := zaa.mk hbX; have HK := zaa.mk (show X.heap[W.heap.size]? = some (.cells #[.int .u8 k, .int .u8 w1, .int .i64 wd, .slice A kids.length c] 29 (0, 0)) by rw [hX]; exact heap_alloc_new _ _)
 have HRX := zaa.mk (Kd.zbm hR hbX); have HVL := zaa.mk (show ∀ q, v.ownBlock = some q → q < W.heap.size from fun q hq => by have := (Kd.R_bound hR).1 q hq; exact this.2.2.1)
 have HVB := zaa.mk (show ∀ q, v.ownBlock = some q → B0 ≤ q from hR.1)
 obtain ⟨Av, cv, rfl⟩ := Kd.zbo hR; rw [List.length_map] at *; have hu := Tryd.underlying29; have hup := Tryd.underlying113; have hus := Tryd.underlying41; obtain ⟨x, hx⟩ : ∃ x : Sn, x = (AT.node k w1 wd A c kids, f, up) := ⟨_, rfl⟩; have hxr : rawS x = [.int .u8 k, .int .u8 w1, .int .i64 wd, .slice A kids.length c, .int .i64 f, .int .i64 to_, .int .i64 up] := by rw [hx, hto]; rfl
 obtain ⟨Y, hY⟩ : ∃ V, V = X.alloc (.cells #[.int .u8 k, .int .u8 w1, .int .i64 wd, .slice A kids.length c, .int .i64 f, .int .i64 to_, .int .i64 up] 113) := ⟨_, rfl⟩; have hbY : Below X.heap.size X Y := by rw [hY]; exact zad (Below.refl _ _) _
 obtain ⟨g, cap, w5, hrun, hg5, hgo5, hbg5, hnl, hR5⟩ := zbR (Kd.raw 7) 113 110 HRX.out (by have := HB.out; have := HBX.out.size; omega) (fun q hq => by have := HB.out; have := HBX.out.size; omega) Tryd.underlying110 infoSeen20 rfl (by decide) (by decide) (by rw [List.length_map]; have := HLEN.out; omega) hbY (rawS x) (rawS x) (by rw [hY, hxr]; exact heap_alloc_new _ _) ⟨rfl, rfl, by rw [hxr]; intro u hu; simp at hu; rcases hu with rfl | rfl | rfl | rfl | rfl | rfl | rfl <;> rfl⟩ rfl (by rw [hxr]; intro u hu; simp at hu; rcases hu with rfl | rfl | rfl | rfl | rfl | rfl | rfl <;> rfl)
 rw [hY] at hrun; have HOW5 := zaa.mk (show OwnR X w5 (.slice Av L.length cv) (.slice (some ⟨g, 0, none⟩) (L.length + 1) cap) from ⟨hg5, hgo5.imp (fun h => by rw [h]; rfl) (fun h => ⟨g, rfl, h⟩)⟩)
 have HR5 := zaa.mk (show Kd.R (Kd.raw 7) 113 w5 B0 (fun q => B0 ≤ q) (.slice (some ⟨g, 0, none⟩) (L.length + 1) cap) ((L ++ [x]).map rawS) by rw [List.map_append, List.map_singleton]; exact hR5)
 have l1 := zaO HK.out; have hK5 : w5.heap[W.heap.size]? = some (.cells #[.int .u8 k, .int .u8 w1, .int .i64 wd, .slice A kids.length c] 29 (0, 0)) := (hg5.block _ l1 (fun e => by have := HVL.out _ e.symm; omega)).trans HK.out
 have HK5 := zaa.mk hK5; have HHX := zaa.mk hx; have HTO := zaa.mk hto; clear ih hz hT hlow hB hR hbX hlen hpre hkg hgd hwd hf hfw hto hbY hg5 hgo5 hR5 hx hxr hK5 hnl hbg5 hY; go_enter Tryd.func47, Tryd.ntmps47
 go_upto_region 1 with (fail)
 change Code.wp Tryd.prog _ _ _ (W.alloc (.cells #[.int .u8 k, .int .u8 w1, .int .i64 wd, .slice A kids.length c] 29))
 rw [← hX]; clear hX; have p0 := zaf HK.out 0; have p1 := zaf HK.out 1; have p2 := zaf HK.out 2; have p3 := zaf HK.out 3; simp at p0 p1 p2 p3; have hw2 : IntKind.i64.wrap (f + wd) = to_ := by rw [HTO.out]; rw [HTO.out] at hw1; exact hw1
 go_upto_region 3 with (at_builtin; refine wpL_app rfl _ _ _ rfl hrun ?_)
 obtain ⟨V1, hV1⟩ : ∃ V1, V1 = Value.slice (some ⟨g, 0, none⟩) (L.length + 1) cap := ⟨_, rfl⟩; rw [← hV1] at HR5 HOW5; rw [← hV1]; clear p0 p1 p2 p3 l1 hrun hV1 hw1 hw2; have HVB2 := zaa.mk (show ∀ w' v', OwnR X w' (.slice Av L.length cv) v' → Below W0.heap.size W0 w' ∧ w'.heap[W.heap.size]? = some (.cells #[.int .u8 k, .int .u8 w1, .int .i64 wd, .slice A kids.length c] 29 (0, 0)) ∧ B0 ≤ w'.heap.size from fun w' v' h => ⟨h.low (zbN HLOW.out HBX.out HLOW.out.size) hB0 HVB.out, (h.1.block _ (zaO HK.out) (fun e => by have := HVL.out _ e.symm; omega)).trans HK.out, by have := HB.out; have := HBX.out.size; have := h.1.size; omega⟩)
 go_wp2
 go_loopg [0, 2, 10] kids.length (fun kq v0 v2 v10 w' => ∃ (i : Nat) (vv : Value), vv = v0 ∧ v2 = .int .i64 (f + wdL (kids.take i)) ∧ v10 = .int .i64 i ∧ i ≤ kids.length ∧ zaa (kq = kids.length - i) ∧ zaa (Kd.R (Kd.raw 7) 113 w' B0 (fun q => B0 ≤ q) v0 ((L ++ ([x] ++ seenL (kids.take i) f L.length (L.length + 1))).map rawS)) ∧ zaa (OwnR X w' (.slice Av L.length cv) v0))
 case atStart => exact ⟨0, _, rfl, by simp [wdL], rfl, Nat.zero_le _, ⟨rfl⟩, ⟨by rw [List.take_zero, seenL, List.append_nil]; exact HR5.out⟩, HOW5⟩
 case round =>
  obtain ⟨i, vv, rfl, rfl, rfl, hi, HKQ, HRI, HOI⟩ := hrel; obtain ⟨hlw, hkw, hbw⟩ := HVB2.out _ _ HOI.out; have HLW := zaa.mk hlw; have HKW := zaa.mk hkw; have HBW := zaa.mk hbw; clear hlw hbw; have p3 := zaf hkw 3; have l1 := zaO hkw; simp at p3; clear hkw; have hlk : kids.length ≤ 1000000 := by have := nL_len kids; have := HLEN.out; omega
  by_cases hlt : i < kids.length
  ·obtain ⟨adk, rfl, hw0, hTk⟩ := AtT.kid HT.out i hlt
   obtain ⟨T, hTe⟩ : ∃ T, T = kids[i] := ⟨_, rfl⟩; rw [← hTe] at hw0 hTk; have hie : kids[i]? = some T := by rw [hTe]; exact List.getElem?_eq_getElem hlt
   have HTK := zaa.mk hTk; have HTE := zaa.mk hTe; have HTG := zaa.mk (HKG.out T (List.mem_of_getElem? hie)); have HSZ := zaa.mk (show SizeOf.sizeOf T < z by have := List.sizeOf_lt_of_mem (List.mem_of_getElem? hie); have := HZ.out; simp at this; omega)
   have hs1 := nL_take kids i T hie; have hs2 := nL_mono kids (i + 1); have hwt := wdL_take kids i T hie; have hp0 := HPRE.out i; have hp1 := HPRE.out (i + 1); have hfw := HFW.out; have htw := HTG.out.w; have hf2 : T.erase.f2 = T.wd := by cases T; rfl
   rw [hf2] at htw; obtain ⟨q0, q1, q2, q3⟩ := hw0.below HLW.out; have hlen := HLEN.out; have HE := zaa.mk hwt; have HEP := zaa.mk (seenL_take kids i T f L.length (L.length + 1) hie); have hsl := seenL_len (kids.take i) f L.length (L.length + 1); have HNL := zaa.mk (show ((L ++ ([x] ++ seenL (kids.take i) f L.length (L.length + 1))).length : Int) = (L.length : Int) + 1 + nL (kids.take i) by simp only [List.length_append, List.length_singleton, hsl]; omega)
   have hcall := IH.out T HSZ.out HTK.out HTG.out (f + wdL (kids.take i)) L.length vv (L ++ ([x] ++ seenL (kids.take i) f L.length (L.length + 1))) wr HLW.out HBW.out HRI.out (by omega) (by omega) (by have := HNL.out; omega)
   simp only [AT.val] at hcall; have hwp : IntKind.i64.wrap (f + wdL (kids.take i) + T.wd) = f + wdL (kids.take i) + T.wd := IntWalk.i64_in _ ⟨by omega, by omega⟩
   have HWP := zaa.mk hwp; clear hie hTk hTe hw0 hs1 hs2 hwt hp0 hp1 hfw htw hf2 hlen hsl hwp; go_upto_region 7 with (go_at_call 47; refine hcall.mono ?_; rintro e w5 ⟨v5, rfl, hR5, hO5⟩; have HR6 := zaa.mk hR5; have HO6 := zaa.mk hO5; clear hR5 hO5 hcall)
   have HO7 := zaa.mk (HOI.out.trans HO6.out); obtain ⟨hlw5, hkw5, hbw5⟩ := HVB2.out _ _ HO7.out; clear p3 l1 q0 q1 q2 q3; have p3 := zaf hkw5 3; have l1 := zaO hkw5; simp at p3; obtain ⟨adk2, hadk2, hw02, _⟩ := AtT.kid HT.out i hlt; obtain rfl := Option.some.inj hadk2; rw [← HTE.out] at hw02; obtain ⟨q0, q1, q2, q3⟩ := hw02.below hlw5; have hwp := HWP.out; clear hw02 hkw5 hbw5 hlw5 hadk2; go_wp2
   go_roundg (kids.length - (i + 1))
   case measure => have := HKQ.out; omega
   case rel => exact ⟨i + 1, _, rfl, by rw [HE.out, Int.add_assoc], by go_num, by omega, ⟨rfl⟩, ⟨by rw [HEP.out, ← HNL.out, ← List.append_assoc [x], ← List.append_assoc L]; exact HR6.out⟩, HO7⟩
  ·obtain rfl : i = kids.length := by omega
   rw [List.take_length] at *; go_wp2
   go_ret
   refine ⟨_, rfl, ?_, ?_⟩
   ·rw [seenT, ← HHX.out]
    exact HRI.out
   ·exact ⟨World.grownBy.trans (zbP HBX.out _) HOI.out.1, HOI.out.2.imp id (fun ⟨b, h1, h2⟩ => ⟨b, h1, Nat.le_trans HBX.out.size h2⟩)⟩
theorem seen_at {W : World} {A : Option Addr} {L : List Sn} (h : Kd.C (Kd.raw 7) W A (L.map rawS).length (L.map rawS)) (i : Nat) (x : Sn) (hx : L[i]? = some x) : ∃ ad, A = some ad ∧ W.cell? (ad.add (i * 7)) = some (.int .u8 x.1.k) ∧ W.cell? ⟨(ad.add (i * 7)).block, (ad.add (i * 7)).off + 4, none⟩ = some (.int .i64 x.2.1) ∧ W.cell? ⟨(ad.add (i * 7)).block, (ad.add (i * 7)).off + 5, none⟩ = some (.int .i64 (x.2.1 + x.1.wd)) ∧ W.cell? ⟨(ad.add (i * 7)).block, (ad.add (i * 7)).off + 6, none⟩ = some (.int .i64 x.2.2) := by
 have hi : i < L.length := (List.getElem?_eq_some_iff.1 hx).1; obtain ⟨ad, c, e, _, hK, hc0⟩ := Kd.C_get h [] (i : Int) (by omega) (by simpa using hi)
 have hc : ∀ j u, c[j]? = some u → W.cell? (ad.add (i * 7 + j)) = some u := fun j u hu => by have := hc0 j u hu; rw [Int.toNat_natCast] at this; exact this
 have hc' : c = rawS x := by
  have h1 := hK.1; rw [h1, Int.toNat_natCast, List.getD_eq_getElem?_getD, List.getElem?_map, hx]
  rfl
 subst hc'; exact ⟨ad, e, by simpa using hc 0 _ rfl, by rw [← zba _ _ 4 (by omega)]; exact hc 4 _ rfl, by rw [← zba _ _ 5 (by omega)]; exact hc 5 _ rfl, by rw [← zba _ _ 6 (by omega)]; exact hc 6 _ rfl⟩
structure SnOk (L : List Sn) (n : Int) : Prop where
 up : ∀ (i : Nat) x, L[i]? = some x → (i = 0 → x.2.2 = -1) ∧ (0 < i → 0 ≤ x.2.2) ∧ x.2.2 < i
 sp : ∀ (i : Nat) x, L[i]? = some x → 0 ≤ x.2.1 ∧ 0 ≤ x.1.wd ∧ x.2.1 + x.1.wd ≤ n
 root : ∀ x, L[0]? = some x → x.1.k = 51
mutual
theorem seenT_at : ∀ (T : AT) (f up me : Int), goodT T.erase → 0 ≤ f → up < me → ∀ (j : Nat) x, (seenT T f up me)[j]? = some x → (j = 0 → x = (T, f, up)) ∧ (0 < j → me ≤ x.2.2) ∧ x.2.2 < me + j ∧ f ≤ x.2.1 ∧ 0 ≤ x.1.wd ∧ x.2.1 + x.1.wd ≤ f + T.wd
 | .node k w wd A c kids, f, up, me, hg, hf, hu, j, x, hx => by
  obtain ⟨hw, hgl, hp, _⟩ := good_node hg; have hwd : (AT.node k w wd A c kids).wd = wd := rfl; rw [hwd]; cases j with
  | zero =>
   simp only [seenT, List.getElem?_cons_zero, Option.some.injEq] at hx; subst hx; exact ⟨fun _ => rfl, fun h => absurd h (Nat.lt_irrefl _), by simpa using hu, Int.le_refl _, hw.1, Int.le_refl _⟩
  | succ j =>
   simp only [seenT, List.getElem?_cons_succ] at hx; obtain ⟨h1, h2, h3, h4, h5⟩ := seenL_at kids f me (me + 1) hgl hf (by omega) j x hx
   have hpl := hp kids.length; rw [List.take_length] at hpl; exact ⟨fun h => absurd h (Nat.succ_ne_zero _), fun _ => h1, by omega, h3, h4, by omega⟩
theorem seenL_at : ∀ (l : List AT) (f up me : Int), goodL (zbL l) → 0 ≤ f → up < me → ∀ (j : Nat) x, (seenL l f up me)[j]? = some x → up ≤ x.2.2 ∧ x.2.2 < me + j ∧ f ≤ x.2.1 ∧ 0 ≤ x.1.wd ∧ x.2.1 + x.1.wd ≤ f + wdL l
 | [], f, up, me, hg, hf, hu, j, x, hx => by simp [seenL] at hx
 | T :: r, f, up, me, hg, hf, hu, j, x, hx => by
  simp only [zbL, goodL] at hg; have hT := hg.1.w; have hf2 : T.erase.f2 = T.wd := by cases T; rfl
  rw [hf2] at hT; have hr := (good_kids r hg.2).2.1 r.length; rw [List.take_length] at hr; simp only [seenL] at hx; simp only [wdL]; by_cases hj : j < nT T
  ·rw [List.getElem?_append_left (by rw [seenT_len]; exact hj)] at hx
   obtain ⟨h0, h1, h2, h3, h4, h5⟩ := seenT_at T f up me hg.1 hf hu j x hx; refine ⟨?_, h2, h3, h4, by omega⟩
   by_cases hz : j = 0
   ·rw [h0 hz]; exact Int.le_refl _
   ·have := h1 (by omega); omega
  ·rw [List.getElem?_append_right (by rw [seenT_len]; omega), seenT_len] at hx
   obtain ⟨h1, h2, h3, h4, h5⟩ := seenL_at r (f + T.wd) up (me + nT T) hg.2 (by omega) (by omega) (j - nT T) x hx
   exact ⟨h1, by omega, by omega, h4, by omega⟩
end
theorem seen_ok (T : AT) (hg : goodT T.erase) (hk : T.k = 51) : SnOk (seenT T 0 (-1) 0) T.wd := by
 have h := seenT_at T 0 (-1) 0 hg (Int.le_refl _) (by omega)
 refine ⟨fun i x hx => ?_, fun i x hx => ?_, fun x hx => ?_⟩
 ·obtain ⟨h0, h1, h2, _⟩ := h i x hx
  exact ⟨fun e => by rw [h0 e], h1, by omega⟩
 ·obtain ⟨_, _, _, h3, h4, h5⟩ := h i x hx
  exact ⟨h3, h4, by omega⟩
 ·obtain ⟨h0, _⟩ := h 0 x hx
  rw [h0 rfl]; exact hk
def homeN (L : List Sn) : Nat → Int → Int
 | 0, k => k
 | n + 1, k => if k < 0 then k else match L[k.toNat]? with
  | none => k
  | some x => if x.1.k = 52 ∨ x.1.k = 51 then k else homeN L n x.2.2
def homeK (L : List Sn) (k : Int) : Int := homeN L (k.toNat + 1) k
theorem homeN_fuel {L : List Sn} {n : Int} (h : SnOk L n) : ∀ (m : Nat) (k : Int) (m' : Nat), k.toNat < m → k.toNat < m' → homeN L m k = homeN L m' k
 | 0, k, m', h1, h2 => absurd h1 (Nat.not_lt_zero _)
 | m + 1, k, 0, h1, h2 => absurd h2 (Nat.not_lt_zero _)
 | m + 1, k, m' + 1, h1, h2 => by
  simp only [homeN]; by_cases hk : k < 0
  ·rw [if_pos hk, if_pos hk]
  ·rw [if_neg hk, if_neg hk]
   cases hx : L[k.toNat]? with
   | none => rfl
   | some x =>
    simp only
    split
    ·rfl
    ·rename_i hne
     have hu := h.up k.toNat x hx; by_cases hz : k.toNat = 0
     ·exact absurd (Or.inr (h.root x (by rw [← hz]; exact hx))) hne
     ·have := hu.2.1 (by omega)
      exact homeN_fuel h m x.2.2 m' (by omega) (by omega)
theorem homeK_step {L : List Sn} {n : Int} (h : SnOk L n) {k : Nat} {x : Sn} (hx : L[k]? = some x) : homeK L k = if x.1.k = 52 ∨ x.1.k = 51 then (k : Int) else homeK L x.2.2 := by
 unfold homeK
 rw [Int.toNat_natCast]
 conv => lhs; unfold homeN
 rw [if_neg (by omega), Int.toNat_natCast, hx]
 simp only; by_cases hc : x.1.k = 52 ∨ x.1.k = 51
 ·rw [if_pos hc, if_pos hc]
 ·rw [if_neg hc, if_neg hc]
  have hu := h.up k x hx; by_cases hz : k = 0
  ·exact absurd (Or.inr (h.root x (by rw [← hz]; exact hx))) hc
  ·have := hu.2.1 (by omega)
   exact homeN_fuel h _ _ _ (by omega) (by omega)
theorem homeK_mem {L : List Sn} {n : Int} (h : SnOk L n) (m : Nat) : ∀ (k : Nat), k < m → k < L.length → 0 ≤ homeK L k ∧ homeK L k ≤ k := by
 induction m with
 | zero => intro k h1; exact absurd h1 (Nat.not_lt_zero _)
 | succ m ih =>
  intro k h1 h2
  obtain ⟨x, hx⟩ : ∃ x, L[k]? = some x := ⟨_, List.getElem?_eq_getElem h2⟩; rw [homeK_step h hx]; by_cases hc : x.1.k = 52 ∨ x.1.k = 51
  ·rw [if_pos hc]; omega
  ·rw [if_neg hc]
   have hu := h.up k x hx; by_cases hz : k = 0
   ·exact absurd (Or.inr (h.root x (by rw [← hz]; exact hx))) hc
   ·have h0 := hu.2.1 (by omega)
    have := ih x.2.2.toNat (by omega) (by omega)
    rw [Int.toNat_of_nonneg h0] at this; omega
theorem home_calls {L : List Sn} {n : Int} (hok : SnOk L n) (A : Option Addr) (c : Nat) (W : World) (hC : Kd.C (Kd.raw 7) W A (L.map rawS).length (L.map rawS)) (i : Nat) (x : Sn) (hx : L[i]? = some x) (hi : 0 < i) :
  Calls Tryd.prog 48 #[.slice A L.length c, .int .i64 i] W fun e W' => e = .returned (.int .i64 (homeK L x.2.2)) ∧ Below W.heap.size W W' := by
 have HC := zaa.mk hC; have HOK := zaa.mk hok; have hui := hok.up i x hx; have hli : i < L.length := (List.getElem?_eq_some_iff.1 hx).1; obtain ⟨ad, hA, _, _, _, q6⟩ := seen_at hC i x hx; subst hA; have hus := Tryd.underlying113; have hun := Tryd.underlying29; obtain ⟨u, hu⟩ : ∃ u : Nat, x.2.2 = u := ⟨x.2.2.toNat, by have := hui.2.1 hi; omega⟩
 have HU := zaa.mk (show u < L.length by omega)
 obtain ⟨r, hr⟩ : ∃ r, r = homeK L u := ⟨_, rfl⟩; rw [hu] at q6 ⊢; rw [← hr]; have HR := zaa.mk hr.symm; clear hC hok hui hu hr; go_enter Tryd.func48, Tryd.ntmps48
 go_wp2
 clear q6; go_loopg [5] u (fun kq v5 w' => ∃ (k : Nat), v5 = .int .i64 k ∧ k < L.length ∧ zaa (kq = k) ∧ zaa (Below W.heap.size W w') ∧ zaa (homeK L k = r))
 case atStart => exact ⟨u, rfl, HU.out, ⟨rfl⟩, ⟨Below.refl _ _⟩, HR⟩
 case round =>
  obtain ⟨k, rfl, hk, HKQ, HB, HK⟩ := hrel; obtain ⟨y, hy⟩ : ∃ y, L[k]? = some y := ⟨_, List.getElem?_eq_getElem hk⟩; obtain ⟨ad2, hA2, q0, _, _, q6⟩ := seen_at (Kd.zaT HC.out HB.out) k y hy; obtain rfl := Option.some.inj hA2; have hst := homeK_step HOK.out hy; rw [HK.out] at hst; have huy := HOK.out.up k y hy; by_cases h52 : y.1.k = 52
  ·have e1 : (y.1.k != 52) = false := by simp [h52]
   have HF := zaa.mk (show r = (k : Int) by rw [hst, if_pos (.inl h52)])
   clear h52 hst hy huy hA2; go_wp2
   go_ret
   exact ⟨by rw [HF.out]; rfl, HB.out⟩
  ·by_cases h51 : y.1.k = 51
   ·have e1 : (y.1.k != 52) = true := by simp [h52]
    have e2 : (y.1.k != 51) = false := by simp [h51]
    have HF := zaa.mk (show r = (k : Int) by rw [hst, if_pos (.inr h51)])
    clear h52 h51 hst hy huy hA2; go_wp2
    go_ret
    exact ⟨by rw [HF.out]; rfl, HB.out⟩
   ·have e1 : (y.1.k != 52) = true := by simp [h52]
    have e2 : (y.1.k != 51) = true := by simp [h51]
    rw [if_neg (by omega)] at hst
    have hkz : k ≠ 0 := fun e => h51 (HOK.out.root y (by rw [← e]; exact hy))
    obtain ⟨m, hm⟩ : ∃ m : Nat, y.2.2 = m := ⟨y.2.2.toNat, by have := huy.2.1 (by omega); omega⟩
    have HF := zaa.mk (show m < L.length ∧ m < k ∧ homeK L m = r by rw [hm] at hst huy; exact ⟨by omega, by omega, hst.symm⟩)
    rw [hm] at q6; clear h52 h51 hst hy huy hA2 hm hkz; go_wp2
    go_roundg m
    case measure => have := HKQ.out; have := HF.out.2.1; omega
    case rel => exact ⟨m, rfl, HF.out.1, ⟨rfl⟩, HB, ⟨HF.out.2.2⟩⟩
def zbQ (L : List Sn) (i : Int) : List S41 := (L.filter fun x => decide (x.2.2 = i) && decide (x.1.k = 52)).map fun x => ⟨x.2.1, x.2.1 + x.1.wd⟩
theorem blocksS_take {L : List Sn} {i : Int} {j : Nat} {x : Sn} (h : L[j]? = some x) : zbQ (L.take (j + 1)) i = zbQ (L.take j) i ++ if x.2.2 = i ∧ x.1.k = 52 then [⟨x.2.1, x.2.1 + x.1.wd⟩] else [] := by
 unfold zbQ
 rw [List.take_add_one, h, List.filter_append, List.map_append]; by_cases c1 : x.2.2 = i <;> by_cases c2 : x.1.k = 52 <;> simp [c1, c2]
theorem blocksS_len (L : List Sn) (i : Int) : (zbQ L i).length ≤ L.length := by
 unfold zbQ
 rw [List.length_map]; exact List.length_filter_le _ _
theorem infoSpan : (Tryd.prog.info? 41).map (fun i => (i.zero, i.size, i.bytes)) = some (some (.agg #[.int .i64 0, .int .i64 0]), 2, 16) := by kernel_rfl
theorem blocks_calls {L : List Sn} (hl : L.length ≤ 1000000) (A : Option Addr) (c : Nat) (W : World) (hC : Kd.C (Kd.raw 7) W A (L.map rawS).length (L.map rawS)) (i : Int) :
  Calls Tryd.prog 49 #[.slice A L.length c, .int .i64 i] W fun e W' => ∃ v, e = .returned v ∧ Kd.R k41 41 W' W.heap.size (fun q => W.heap.size ≤ q) v (zbQ L i) ∧ Below W.heap.size W W' := by
 have HC := zaa.mk hC; have HLL := zaa.mk hl; have hus := Tryd.underlying113; have hun := Tryd.underlying29; have hup := Tryd.underlying41; clear hC hl; go_enter Tryd.func49, Tryd.ntmps49
 go_wp2
 go_loopg [5, 6] L.length (fun kq v5 v6 w' => ∃ (j : Nat) (vv : Value), vv = v5 ∧ v6 = .int .i64 j ∧ j ≤ L.length ∧ zaa (kq = L.length - j) ∧ zaa (Below W.heap.size W w') ∧ zaa (Kd.R k41 41 w' W.heap.size (fun q => W.heap.size ≤ q) v5 (zbQ (L.take j) i)))
 case atStart => exact ⟨0, _, rfl, rfl, Nat.zero_le _, ⟨rfl⟩, ⟨Below.refl _ _⟩, ⟨Kd.R_nil _ _ _ _ _⟩⟩
 case round =>
  obtain ⟨j, vv, rfl, rfl, hj, HKQ, HB, HR⟩ := hrel; have hll := HLL.out; by_cases hlt : j < L.length
  ·obtain ⟨y, hy⟩ : ∃ y, L[j]? = some y := ⟨_, List.getElem?_eq_getElem hlt⟩
   obtain ⟨ad, hA, q0, q4, q5, q6⟩ := seen_at (Kd.zaT HC.out HB.out) j y hy; subst hA; have HBT := zaa.mk (blocksS_take (i := i) hy); have HBL := zaa.mk (show (zbQ (L.take j) i).length ≤ 1000000 by have := blocksS_len (L.take j) i; rw [List.length_take] at this; omega)
   clear hy; by_cases c1 : y.2.2 = i
   ·have d1 : (y.2.2 == i) = true := by simp [c1]
    by_cases c2 : y.1.k = 52
    ·have d2 : (y.1.k == 52) = true := by simp [c2]
     have HF := zaa.mk (show zbQ (L.take (j + 1)) i = zbQ (L.take j) i ++ [⟨y.2.1, y.2.1 + y.1.wd⟩] by rw [HBT.out, if_pos ⟨c1, c2⟩])
     clear c1 c2; obtain ⟨Av, cv, e⟩ := Kd.zbo HR.out; subst e; obtain ⟨t1, ht1⟩ : ∃ t1, t1 = y.2.1 + y.1.wd := ⟨_, rfl⟩; rw [← ht1] at q5 HF; obtain ⟨Y, hY⟩ : ∃ V, V = wr.alloc (.cells #[.int .i64 y.2.1, .int .i64 t1] 41) := ⟨_, rfl⟩; have hbY : Below wr.heap.size wr Y := by rw [hY]; exact zad (Below.refl _ _) _
     obtain ⟨g, cap, w5, hrun, hg5, hgo5, hbg5, hnl, hR5⟩ := zbR k41 41 73 HR.out HB.out.size (fun q hq => by have := HB.out.size; omega) Tryd.underlying73 infoSpan rfl (by decide) (by decide) (by have := HBL.out; omega) hbY ⟨y.2.1, t1⟩ [.int .i64 y.2.1, .int .i64 t1] (by rw [hY]; exact heap_alloc_new _ _) (k41_mkM _ _ _ _) rfl (by intro u hu; simp at hu; rcases hu with rfl | rfl <;> rfl)
     rw [hY] at hrun; have HB5 := zaa.mk (show Below W.heap.size W w5 from HB.out.grown hg5 HB.out.size (fun q hq => HR.out.1 q hq))
     have HR5 := zaa.mk (show Kd.R k41 41 w5 W.heap.size (fun q => W.heap.size ≤ q) (.slice (some ⟨g, 0, none⟩) ((zbQ (L.take j) i).length + 1) cap) (zbQ (L.take (j + 1)) i) by rw [HF.out]; exact hR5)
     clear hY hbY hg5 hgo5 hR5 hnl hbg5 ht1; go_wp2_with (at_builtin; refine wpL_app rfl _ _ _ rfl hrun ?_; clear hrun)
     go_roundg (L.length - (j + 1))
     case measure => have := HKQ.out; omega
     case rel => exact ⟨j + 1, _, rfl, by go_num, by omega, ⟨rfl⟩, HB5, HR5⟩
    ·have d2 : (y.1.k == 52) = false := by simp [c2]
     have HF := zaa.mk (show zbQ (L.take (j + 1)) i = zbQ (L.take j) i by rw [HBT.out, if_neg (fun h => c2 h.2), List.append_nil])
     clear c1 c2; go_wp2
     go_roundg (L.length - (j + 1))
     case measure => have := HKQ.out; omega
     case rel => exact ⟨j + 1, _, rfl, by go_num, by omega, ⟨rfl⟩, HB, ⟨by rw [HF.out]; exact HR.out⟩⟩
   ·have d1 : (y.2.2 == i) = false := by simp [c1]
    have HF := zaa.mk (show zbQ (L.take (j + 1)) i = zbQ (L.take j) i by rw [HBT.out, if_neg (fun h => c1 h.1), List.append_nil])
    clear c1; go_wp2
    go_roundg (L.length - (j + 1))
    case measure => have := HKQ.out; omega
    case rel => exact ⟨j + 1, _, rfl, by go_num, by omega, ⟨rfl⟩, HB, ⟨by rw [HF.out]; exact HR.out⟩⟩
  ·have hje : j = L.length := by omega
   subst hje; have HRE := zaa.mk (show Kd.R k41 41 wr W.heap.size (fun q => W.heap.size ≤ q) vv (zbQ L i) by have := HR.out; rwa [List.take_length] at this)
   go_wp2
   go_ret
   exact ⟨_, rfl, HRE.out, HB.out⟩
theorem mixD : Tryd.prog.follows .mixedOrders = true := by kernel_rfl
theorem wpO_app {P : Program} {w w' : World} {ops : Array Oper} {o : Oper} {a : Act} {Q : Exit → Act → World → Prop} {Kc : Act → World → Prop} {v' : Value}
  (hw : Region.wanted o (yielded ops a.tmps) = true) (s x : Operand) (t : TypeId) (hop : o.op = Op.call { callee := Callee.builtin Builtin.append, args := #[s, x], argTypes := #[t, t] })
  (hrun : (Builtin.append_ #[t, t] o.type #[a.eval s, a.eval x]).run P w = .ok v' w') (hK : Kc (a.put o.dst v') w') : if Region.wanted o (yielded ops a.tmps) = true then Oper.wp P o a w Kc Q else Kc (a.put o.dst undef) w := by
 rw [if_pos hw]; unfold Oper.wp execOp
 simp only [hop, resolve, invoke, builtin, Sem.run_bind, Sem.run_pure, Result.andThen_ok, List.map_toArray, List.map_cons, List.map_nil, hrun]; exact hK
structure Dc where
 f : Int
 t : Int
 kind : Int
 again : Bool
 name : ByteArray
 counts : List S41
 home : Int
abbrev Dm := Dc × Value
abbrev Us := Int × Int × ByteArray
abbrev rawD (x : Dm) : List Value := [.int .i64 x.1.f, .int .i64 x.1.t, .int .u8 x.1.kind, .bool x.1.again, .string x.1.name, x.2, .int .i64 x.1.home]
abbrev rawU (x : Us) : List Value := [.int .i64 x.1, .int .i64 x.2.1, .string x.2.2]
def nmS (s : ByteArray) (x : Sn) : ByteArray := s.extract x.2.1.toNat (x.2.1 + x.1.wd).toNat
def endS (L : List Sn) (k : Int) : Int := match L[k.toNat]? with | some x => x.2.1 + x.1.wd | none => 0
def kindS (L : List Sn) (k : Int) : Int := if k < 0 then -1 else match L[k.toNat]? with | some x => x.1.k | none => -1
def mkD (L : List Sn) (s : ByteArray) (ds : List Dc) (x y : Sn) (u : Int) : Dc :=
 let h := if y.1.k = 55 then u else homeK L y.2.2
 ⟨x.2.1, x.2.1 + x.1.wd, if y.1.k = 53 then 1 else if y.1.k = 54 then 2 else 3, ds.any fun d => decide (d.name = nmS s x) && decide (d.home = h), nmS s x,
  if y.1.k = 53 then [⟨y.2.1 + y.1.wd, endS L h⟩] else if y.1.k = 54 then [⟨x.2.1 + x.1.wd, endS L h⟩] else if kindS L y.2.2 = 54 then zbQ L y.2.2 else [], h⟩
def stepD (L : List Sn) (s : ByteArray) (x : Sn) (r : List Dc × List Us) : List Dc × List Us :=
 if x.1.k = 6 ∧ 0 ≤ x.2.2 then match L[x.2.2.toNat]? with
  | none => r
  | some y => if y.1.k = 66 then (r.1, r.2 ++ [(x.2.1, x.2.1 + x.1.wd, nmS s x)]) else if y.1.k = 53 ∨ y.1.k = 54 ∨ y.1.k = 55 then (r.1 ++ [mkD L s r.1 x y x.2.2], r.2) else r
 else r
def findS (L : List Sn) (s : ByteArray) (i : Nat) : List Dc × List Us := (L.take i).foldl (fun r x => stepD L s x r) ([], [])
theorem findS_step {L : List Sn} {s : ByteArray} {i : Nat} {x : Sn} (h : L[i]? = some x) : findS L s (i + 1) = stepD L s x (findS L s i) := by
 unfold findS
 rw [List.take_add_one, h, List.foldl_append]
 rfl
theorem stepD_len (L : List Sn) (s : ByteArray) (x : Sn) (r : List Dc × List Us) : (stepD L s x r).1.length + (stepD L s x r).2.length ≤ r.1.length + r.2.length + 1 := by
 unfold stepD
 split
 ·split
  ·omega
  ·split
   ·simp only [List.length_append, List.length_singleton]; omega
   ·split
    ·simp only [List.length_append, List.length_singleton]; omega
    ·omega
 ·omega
theorem findS_len (L : List Sn) (s : ByteArray) : ∀ i, i ≤ L.length → (findS L s i).1.length + (findS L s i).2.length ≤ i
 | 0, _ => by simp [findS]
 | i + 1, h => by
  obtain ⟨x, hx⟩ : ∃ x, L[i]? = some x := ⟨_, List.getElem?_eq_getElem (by omega)⟩
  rw [findS_step hx]; have h1 := stepD_len L s x (findS L s i); have h2 := findS_len L s i (by omega)
  omega
structure FI (w1 w : World) (B : Nat) (vd vu : Value) (m : List Dm) (us : List Us) : Prop where
 bs : B ≤ w1.heap.size
 low : Below B w1 w
 rd : Kd.R (Kd.raw 7) 75 w B (fun q => B ≤ q) vd (m.map rawD)
 ru : Kd.R (Kd.raw 3) 77 w B (fun q => B ≤ q) vu (us.map rawU)
 rc : ∀ x ∈ m, Kd.R k41 41 w B (fun q => B ≤ q) x.2 x.1.counts
theorem FI.below {w1 w w' : World} {B : Nat} {vd vu : Value} {m : List Dm} {us : List Us} (h : FI w1 w B vd vu m us) (hb : Below w.heap.size w w') : FI w1 w' B vd vu m us :=
 ⟨h.bs, zbN h.low hb (Nat.le_trans h.bs h.low.size), Kd.zbm h.rd hb, Kd.zbm h.ru hb, fun x hx => Kd.zbm (h.rc x hx) hb⟩
theorem FI.lower {w0 w1 w : World} {B B' : Nat} {vd vu : Value} {m : List Dm} {us : List Us} (h : FI w1 w B vd vu m us) (hB : B' ≤ B) (hb : B' ≤ w0.heap.size) (hl : Below B' w0 w) : FI w0 w B' vd vu m us :=
 ⟨hb, hl, Kd.zbT (Kd.zbz h.rd hB) (fun _ hq => Nat.le_trans hB hq), Kd.zbT (Kd.zbz h.ru hB) (fun _ hq => Nat.le_trans hB hq), fun x hx => Kd.zbT (Kd.zbz (h.rc x hx) hB) (fun _ hq => Nat.le_trans hB hq)⟩
theorem infoDecl20 : (Tryd.prog.info? 75).map (fun i => (i.zero, i.size, i.bytes)) = some (some (.agg #[.int .i64 0, .int .i64 0, .int .u8 0, .bool false, .string ⟨#[]⟩, .slice none 0 0, .int .i64 0]), 7, 72) := by kernel_rfl
theorem infoUse20 : (Tryd.prog.info? 77).map (fun i => (i.zero, i.size, i.bytes)) = some (some (.agg #[.int .i64 0, .int .i64 0, .string ⟨#[]⟩]), 3, 32) := by kernel_rfl
theorem use_app {w1 X Y : World} {B n cu : Nat} {vd : Value} {Au : Option Addr} {m : List Dm} {us : List Us} (h : FI w1 X B vd (.slice Au n cu) m us) (hl : us.length ≤ 1000000) (u : Us) (hY : Y = X.alloc (.cells #[.int .i64 u.1, .int .i64 u.2.1, .string u.2.2] 77)) :
  ∃ (g cap : Nat) (w5 : World), (Builtin.append_ #[68, 68] 68 #[.slice Au n cu, .slice (some ⟨X.heap.size, 0, none⟩) 1 1]).run Tryd.prog Y = .ok (.slice (some ⟨g, 0, none⟩) (n + 1) cap) w5 ∧ FI w1 w5 B vd (.slice (some ⟨g, 0, none⟩) (n + 1) cap) m (us ++ [u]) ∧ ∀ (b : Nat) (cs : Array Value), X.heap[b]? = some (Obj.cells cs 75 (0, 0)) → w5.heap[b]? = some (Obj.cells cs 75 (0, 0)) := by
 have hsz : B ≤ X.heap.size := Nat.le_trans h.bs h.low.size; have hbY : Below X.heap.size X Y := by rw [hY]; exact zad (Below.refl _ _) _
 obtain ⟨g, cap, w5, hrun, hg5, hgo5, hbg5, hnl, hR5⟩ := zbR (Kd.raw 3) 77 68 h.ru hsz (fun q hq => by omega) Tryd.underlying68 infoUse20 rfl (by decide) (by decide) (by rw [List.length_map]; omega) hbY (rawU u) (rawU u) (by rw [hY]; exact heap_alloc_new _ _) ⟨rfl, rfl, by intro v hv; simp at hv; rcases hv with rfl | rfl | rfl <;> rfl⟩ rfl (by intro v hv; simp at hv; rcases hv with rfl | rfl | rfl <;> rfl)
 refine ⟨g, cap, w5, hrun, ⟨h.bs, h.low.grown hg5 hsz (fun k hk => h.ru.1 k hk), Kd.R_over' h.rd (Kd.zbO h.ru) (by decide) hg5, ?_, fun x hx => Kd.R_over' (h.rc x hx) (Kd.zbO h.ru) (by decide) hg5⟩, fun b cs hb => (hg5.block _ (zaO hb) (fun e => ?_)).trans hb⟩
 ·rw [List.map_append, List.map_singleton]
  exact hR5
 ·obtain ⟨cs2, h2⟩ := Kd.zbO h.ru b e.symm
  rw [hb] at h2; injection h2 with h2
  injection h2 with _ h2 _
  exact absurd h2 (by decide)
theorem decl_app {w1 X Y : World} {B n cd : Nat} {vu : Value} {Ad : Option Addr} {m : List Dm} {us : List Us} (h : FI w1 X B (.slice Ad n cd) vu m us) (hl : m.length ≤ 1000000) (x : Dm) (hx : Kd.R k41 41 X B (fun q => B ≤ q) x.2 x.1.counts) (hY : Y = X.alloc (.cells (rawD x).toArray 75)) :
  ∃ g cap w5, (Builtin.append_ #[67, 67] 67 #[.slice Ad n cd, .slice (some ⟨X.heap.size, 0, none⟩) 1 1]).run Tryd.prog Y = .ok (.slice (some ⟨g, 0, none⟩) (n + 1) cap) w5 ∧ FI w1 w5 B (.slice (some ⟨g, 0, none⟩) (n + 1) cap) vu (m ++ [x]) us := by
 have hsz : B ≤ X.heap.size := Nat.le_trans h.bs h.low.size; have hbY : Below X.heap.size X Y := by rw [hY]; exact zad (Below.refl _ _) _
 obtain ⟨A, c, e⟩ := Kd.zbo hx; have h1 : x.2.oneCell' = true := by rw [e]; rfl
 obtain ⟨g, cap, w5, hrun, hg5, hgo5, hbg5, hnl, hR5⟩ := zbR (Kd.raw 7) 75 67 h.rd hsz (fun q hq => by omega) Tryd.underlying67 infoDecl20 rfl (by decide) (by decide) (by rw [List.length_map]; omega) hbY (rawD x) (rawD x) (by rw [hY]; exact heap_alloc_new _ _) ⟨rfl, rfl, by intro v hv; simp at hv; rcases hv with rfl | rfl | rfl | rfl | rfl | rfl | rfl <;> first | rfl | exact h1⟩ rfl (by intro v hv; simp at hv; rcases hv with rfl | rfl | rfl | rfl | rfl | rfl | rfl <;> first | rfl | exact h1)
 refine ⟨g, cap, w5, hrun, h.bs, h.low.grown hg5 hsz (fun k hk => h.rd.1 k hk), ?_, Kd.R_over' h.ru (Kd.zbO h.rd) (by decide) hg5, fun y hy => ?_⟩
 ·rw [List.map_append, List.map_singleton]
  exact hR5
 ·rcases List.mem_append.1 hy with hy | hy
  ·exact Kd.R_over' (h.rc y hy) (Kd.zbO h.rd) (by decide) hg5
  ·obtain rfl := List.mem_singleton.1 hy
   exact Kd.R_over' hx (Kd.zbO h.rd) (by decide) hg5
theorem R_span1 {w : World} {B : Nat} (hB : B ≤ w.heap.size) (a b : Int) : Kd.R k41 41 (w.alloc (.cells #[.int .i64 a, .int .i64 b] 41)) B (fun q => B ≤ q) (.slice (some ⟨w.heap.size, 0, none⟩) 1 1) [⟨a, b⟩] := by
 refine ⟨fun k hk => ?_, [.int .i64 a, .int .i64 b], ?_, ⟨rfl, fun j p hj => ?_⟩⟩
 ·have : w.heap.size = k := by simpa [Value.ownBlock] using hk
  omega
 ·exact ⟨rfl, .inr ⟨w.heap.size, 1, #[.int .i64 a, .int .i64 b], rfl, hB, heap_alloc_new _ _, Nat.le_refl _, by decide, rfl, rfl⟩⟩
 ·cases j with
  | zero =>
   simp at hj; subst hj; exact k41_mkM _ _ _ _
  | succ j => simp at hj
theorem ba_inj {a b : ByteArray} (h : a.toList = b.toList) : a = b := by
 rw [ByteArray.toList_eq, ByteArray.toList_eq] at h; exact Go.WideShapes.bytes_inj h
theorem decl_at {W : World} {A : Option Addr} {L : List Dm} (h : Kd.C (Kd.raw 7) W A (L.map rawD).length (L.map rawD)) (i : Nat) (x : Dm) (hx : L[i]? = some x) : ∃ ad, A = some ad ∧ W.cell? ⟨(ad.add (i * 7)).block, (ad.add (i * 7)).off + 4, none⟩ = some (.string x.1.name) ∧ W.cell? ⟨(ad.add (i * 7)).block, (ad.add (i * 7)).off + 6, none⟩ = some (.int .i64 x.1.home) := by
 have hi : i < L.length := (List.getElem?_eq_some_iff.1 hx).1; obtain ⟨ad, c, e, _, hK, hc0⟩ := Kd.C_get h [] (i : Int) (by omega) (by simpa using hi)
 have hc : ∀ j u, c[j]? = some u → W.cell? (ad.add (i * 7 + j)) = some u := fun j u hu => by have := hc0 j u hu; rw [Int.toNat_natCast] at this; exact this
 have hc' : c = rawD x := by
  have h1 := hK.1; rw [h1, Int.toNat_natCast, List.getD_eq_getElem?_getD, List.getElem?_map, hx]
  rfl
 subst hc'; exact ⟨ad, e, by rw [← zba _ _ 4 (by omega)]; exact hc 4 _ rfl, by rw [← zba _ _ 6 (by omega)]; exact hc 6 _ rfl⟩
theorem put7 {W0 w : World} {n q : Nat} {v0 v1 v2 v3 v4 v5 v6 : Value} (h : w.heap[q]? = some (.cells #[v0, v1, v2, v3, v4, v5, v6] 75 (0, 0))) (hb : Below n W0 w) (hq : n ≤ q) (u0 u1 u2 u3 u4 u5 u6 : Value) :
  ∃ Z, Z = ((((((w.setCell ⟨q, 0, none⟩ u0).setCell ⟨q, 1, none⟩ u1).setCell ⟨q, 2, none⟩ u2).setCell ⟨q, 3, none⟩ u3).setCell ⟨q, 4, none⟩ u4).setCell ⟨q, 5, none⟩ u5).setCell ⟨q, 6, none⟩ u6 ∧ Below n W0 Z ∧ Z.heap[q]? = some (.cells #[u0, u1, u2, u3, u4, u5, u6] 75 (0, 0)) :=
 ⟨_, rfl, ((((((hb.setCell hq _).setCell hq _).setCell hq _).setCell hq _).setCell hq _).setCell hq _).setCell hq _, by simpa using zbt (zbt (zbt (zbt (zbt (zbt (zbt h 0 u0) 1 u1) 2 u2) 3 u3) 4 u4) 5 u5) 6 u6⟩
theorem find_calls (s : ByteArray) (T : AT) (W : World) (hT : AtT W T) (hgd : goodT T.erase) (hk : T.k = 51) (hw : T.wd = s.size) (hn : nT T ≤ 1000000) (hs : s.size ≤ 1099511627776) :
  Calls Tryd.prog 21 #[.string s, T.val] W fun e W' => ∃ vd vu m us, e = .returned (.tuple #[vd, vu]) ∧ FI W W' W.heap.size vd vu m us ∧ m.map (·.1) = (findS (seenT T 0 (-1) 0) s (seenT T 0 (-1) 0).length).1 ∧ us = (findS (seenT T 0 (-1) 0) s (seenT T 0 (-1) 0).length).2 := by
 obtain ⟨L, hL⟩ : ∃ L, L = seenT T 0 (-1) 0 := ⟨_, rfl⟩; rw [← hL]; have HOK := zaa.mk (show SnOk L s.size by rw [hL, ← hw]; exact seen_ok T hgd hk)
 have HLL := zaa.mk (show L.length ≤ 1000000 by rw [hL, seenT_len]; exact hn)
 obtain ⟨X, hX⟩ : ∃ V, V = W.alloc (.cells #[.int .u8 T.k, .int .u8 T.w, .int .i64 T.wd, .slice T.A T.kids.length T.c] 29) := ⟨_, rfl⟩; have HBX := zaa.mk (show Below W.heap.size W X by rw [hX]; exact zad (Below.refl _ _) _)
 have hbox : X.heap[W.heap.size]? = some (.cells #[.int .u8 T.k, .int .u8 T.w, .int .i64 T.wd, .slice T.A T.kids.length T.c] 29 (0, 0)) := by rw [hX]; exact heap_alloc_new _ _
 have p0 := zaf hbox 0; have p1 := zaf hbox 1; have p2 := zaf hbox 2; have p3 := zaf hbox 3; simp at p0 p1 p2 p3; have hcall := rall_calls X X.heap.size (Nat.le_refl _) _ T (Nat.lt_succ_self _) (AtT.below HBX.out T hT) hgd 0 (-1) (.slice none 0 0) [] X (Below.refl _ _) (Nat.le_refl _) (Kd.R_nil _ _ _ _ _) (Int.le_refl _) (by rw [hw]; omega) (by simp; exact hn)
 rw [List.nil_append, List.length_nil, Int.natCast_zero, ← hL] at hcall; simp only [AT.val] at hcall ⊢; have hus := Tryd.underlying113; have hun := Tryd.underlying29; have hup := Tryd.underlying41; have hud := Tryd.underlying75; have huu := Tryd.underlying77; have huc := Tryd.underlying72; have HS := zaa.mk hs; clear hT hgd hk hw hn hL hbox hs; go_enter Tryd.func21, Tryd.ntmps21
 go_upto_region 1 with (fail)
 change Code.wp Tryd.prog _ _ _ (W.alloc (.cells #[.int .u8 T.k, .int .u8 T.w, .int .i64 T.wd, .slice T.A T.kids.length T.c] 29))
 rw [← hX]; clear hX; go_wp2_with (go_at_call 47; refine hcall.mono ?_; rintro e w1 ⟨v1, rfl, hR1, hO1⟩; clear hcall p0 p1 p2 p3)
 obtain ⟨A1, c1, rfl, hc1, hC1⟩ := Kd.R_reads hR1; rw [List.length_map] at *; have HB1 := zaa.mk (show Below W.heap.size W w1 from zbN HBX.out (hO1.low (Below.refl _ _) (Nat.le_refl _) (fun k hk => by cases hk)) HBX.out.size)
 have hC1' : Kd.C (Kd.raw 7) w1 A1 (L.map rawS).length (L.map rawS) := by rw [List.length_map]; exact hC1
 have HC1 := zaa.mk hC1'; clear hR1 hO1 hC1 hC1' hc1; go_loopg [7, 8, 9] L.length (fun kq v7 v8 v9 w' => ∃ (i : Nat) (vd vu : Value) (m : List Dm), vd = v7 ∧ vu = v8 ∧ v9 = .int .i64 i ∧ i ≤ L.length ∧ zaa (kq = L.length - i) ∧ zaa (FI w1 w' w1.heap.size v7 v8 m (findS L s i).2) ∧ zaa (m.map (·.1) = (findS L s i).1))
 case atStart => exact ⟨0, _, _, [], rfl, rfl, rfl, Nat.zero_le _, ⟨rfl⟩, ⟨⟨Nat.le_refl _, Below.refl _ _, Kd.R_nil _ _ _ _ _, Kd.R_nil _ _ _ _ _, fun x hx => by cases hx⟩⟩, ⟨rfl⟩⟩
 case round =>
  obtain ⟨i, vd, vu, m, rfl, rfl, rfl, hi, HKQ, HFI, HM⟩ := hrel; have hll := HLL.out; by_cases hlt : i < L.length
  ·obtain ⟨x, hx⟩ : ∃ x, L[i]? = some x := ⟨_, List.getElem?_eq_getElem hlt⟩
   have hsx := HOK.out.sp i x hx; have hux := HOK.out.up i x hx; have HXI := zaa.mk hx; have HST := zaa.mk (findS_step (s := s) hx); obtain ⟨ad, hA, q0, q4, q5, q6⟩ := seen_at (Kd.zaT HC1.out HFI.out.low) i x hx; subst hA; clear hx; by_cases hk6 : x.1.k = 6
   ·have d6 : (x.1.k != 6) = false := by simp [hk6]
    by_cases hup0 : x.2.2 < 0
    ·have HF := zaa.mk (show findS L s (i + 1) = findS L s i by rw [HST.out]; unfold stepD; rw [if_neg (by omega)])
     clear hk6 hsx hux; go_wp2
     go_roundg (L.length - (i + 1))
     case measure => have := HKQ.out; omega
     case rel => exact ⟨i + 1, _, _, m, rfl, rfl, by go_num, by omega, ⟨rfl⟩, ⟨by rw [HF.out]; exact HFI.out⟩, ⟨by rw [HF.out]; exact HM.out⟩⟩
    ·obtain ⟨u, hu⟩ : ∃ u : Nat, x.2.2 = u := ⟨x.2.2.toNat, by omega⟩
     have HUI := zaa.mk (show u < i by have := hux.2.2; omega)
     obtain ⟨y, hy⟩ : ∃ y, L[u]? = some y := ⟨_, List.getElem?_eq_getElem (by have := HUI.out; omega)⟩
     have HYI := zaa.mk hy; have HSTY := zaa.mk (show findS L s (i + 1) = if y.1.k = 66 then ((findS L s i).1, (findS L s i).2 ++ [(x.2.1, x.2.1 + x.1.wd, nmS s x)]) else if y.1.k = 53 ∨ y.1.k = 54 ∨ y.1.k = 55 then ((findS L s i).1 ++ [mkD L s (findS L s i).1 x y u], (findS L s i).2) else findS L s i by rw [HST.out]; unfold stepD; rw [if_pos ⟨hk6, by omega⟩, hu, Int.toNat_natCast, hy])
     obtain ⟨f, hf⟩ : ∃ f, f = x.2.1 := ⟨_, rfl⟩; obtain ⟨e, he⟩ : ∃ e, e = x.2.1 + x.1.wd := ⟨_, rfl⟩; obtain ⟨nm, hnm⟩ : ∃ nm, nm = nmS s x := ⟨_, rfl⟩; rw [hu] at q6; rw [← hf] at q4; rw [← he] at q5; have HF := zaa.mk hf; have HE := zaa.mk he; have HNM := zaa.mk (show s.extract f.toNat e.toNat = nm by rw [hnm, hf, he]; rfl)
     have HNX := zaa.mk hnm; have hfe0 : 0 ≤ f := by rw [hf]; omega
     have hfe1 : f ≤ e := by rw [hf, he]; omega
     have hfe2 : e ≤ s.size := by rw [he]; omega
     have HU := zaa.mk hu; clear hf he hnm hu hy hsx hux hup0 hk6; go_upto_region 9 with (fail)
     go_cut [11] (fun v11 wx => ∃ bx, v11 = .pointer (some ⟨bx, 0, none⟩) ∧ zaa (Below wr.heap.size wr wx ∧ wr.heap.size ≤ bx ∧ wx.heap[bx]? = some (.cells #[.int .i64 f, .int .i64 e, .int .u8 0, .bool false, .string nm, .slice none 0 0, .int .i64 0] 75 (0, 0))))
     case first =>
      obtain ⟨Y, hY⟩ : ∃ Y : World, Y = wr.drew := ⟨_, rfl⟩; have HBY := zaa.mk (show Below wr.heap.size wr Y by rw [hY]; exact (Below.refl _ _).drew)
      have HSX := zaa.mk (fun (w : World) (hw : Below wr.heap.size wr w) => (show w.cell? (ad.add (i * 7)) = some (.int .u8 x.1.k) ∧ w.cell? ⟨(ad.add (i * 7)).block, (ad.add (i * 7)).off + 4, none⟩ = some (.int .i64 f) ∧ w.cell? ⟨(ad.add (i * 7)).block, (ad.add (i * 7)).off + 5, none⟩ = some (.int .i64 e) from by
       obtain ⟨ad2, e2, h0, h4, h5, _⟩ := seen_at (Kd.zaT HC1.out (HFI.out.below hw).low) i x HXI.out; obtain rfl := Option.some.inj e2; rw [← HF.out] at h4; rw [← HE.out] at h5; exact ⟨h0, h4, h5⟩))
      have HS0 := zaa.mk (HSX.out Y HBY.out)
      (try clear HST); (try clear HSTY); (try clear HYI); (try clear HKQ); (try clear HM); (try clear HNX); (try clear HU); (try clear HUI); (try clear hll); (try clear hi); (try clear q0); (try clear q4); (try clear q5); (try clear q6); (try clear d6); (try clear HOK); (try clear HLL); (try clear HBX); (try clear HB1); (try clear HXI); (try clear HF); (try clear HE); (try clear HFI); (try clear HC1); (try clear HS); (try clear hun); (try clear huu)
      refine wp_region_noPanic (zbn [0, 1, 2, 3, 4, 5, 6, 7, 8, 9, 10, 11, 12, 13, 14, 15, 16, 17, 18, 19, 20, 21, 22] (fun W' => W'.cell? (ad.add (i * 7)) = some (.int .u8 x.1.k) ∧ W'.cell? ⟨(ad.add (i * 7)).block, (ad.add (i * 7)).off + 4, none⟩ = some (.int .i64 f) ∧ W'.cell? ⟨(ad.add (i * 7)).block, (ad.add (i * 7)).off + 5, none⟩ = some (.int .i64 e)) mixD ?_)
      rw [← hY]; clear hY; refine zah 0 rfl HS0.out (fun _ h => by obtain ⟨s0, s1, s2⟩ := h; go_simp; try rfl) ?_
      simp only [Act.put, zaj]; refine zah 1 rfl HS0.out (fun _ h => by obtain ⟨s0, s1, s2⟩ := h; go_simp; try rfl) ?_
      simp only [Act.put, zaj]; refine zah 2 rfl HS0.out (fun _ h => by obtain ⟨s0, s1, s2⟩ := h; go_simp; try rfl) ?_
      simp only [Act.put, zaj]; refine zah 3 rfl HS0.out (fun _ h => by obtain ⟨s0, s1, s2⟩ := h; go_simp; try rfl) ?_
      simp only [Act.put, zaj]; refine zah 4 rfl HS0.out (fun _ h => by obtain ⟨s0, s1, s2⟩ := h; go_simp; try rfl) ?_
      simp only [Act.put, zaj]; refine zah 5 rfl HS0.out (fun _ h => by obtain ⟨s0, s1, s2⟩ := h; go_simp; try rfl) ?_
      simp only [Act.put, zaj]; refine zah 6 rfl HS0.out (fun _ h => by obtain ⟨s0, s1, s2⟩ := h; go_simp; try rfl) ?_
      simp only [Act.put, zaj]; refine zah 7 rfl HS0.out (fun _ h => by obtain ⟨s0, s1, s2⟩ := h; go_simp; try rfl) ?_
      simp only [Act.put, zaj]; refine zah 8 rfl HS0.out (fun _ h => by obtain ⟨s0, s1, s2⟩ := h; go_simp; try rfl) ?_
      simp only [Act.put, zaj]; refine zah 9 rfl HS0.out (fun _ h => by obtain ⟨s0, s1, s2⟩ := h; go_simp; try rfl) ?_
      simp only [Act.put, zaj]; refine zah 10 rfl HS0.out (fun _ h => by obtain ⟨s0, s1, s2⟩ := h; go_simp; try rfl) ?_
      simp only [Act.put, zaj]; refine zah 11 rfl HS0.out (fun _ h => by obtain ⟨s0, s1, s2⟩ := h; go_simp; try rfl) ?_
      simp only [Act.put, zaj]; refine zah 12 rfl HS0.out (fun _ h => by obtain ⟨s0, s1, s2⟩ := h; go_simp; try rfl) ?_
      simp only [Act.put, zaj]; refine zah 13 rfl HS0.out (fun _ h => by obtain ⟨s0, s1, s2⟩ := h; go_simp; try rfl) ?_
      simp only [Act.put, zaj]; refine zah 14 rfl HS0.out (fun _ h => by obtain ⟨s0, s1, s2⟩ := h; go_simp; try rfl) ?_
      simp only [Act.put, zaj]; refine zah 15 rfl HS0.out (fun _ h => by obtain ⟨s0, s1, s2⟩ := h; go_simp; try rfl) ?_
      simp only [Act.put, zaj]; refine zah 16 rfl HS0.out (fun _ h => by obtain ⟨s0, s1, s2⟩ := h; go_simp; try rfl) ?_
      simp only [Act.put, zaj]; refine zah 17 rfl HS0.out (fun _ h => by obtain ⟨s0, s1, s2⟩ := h; go_simp; try rfl) ?_
      simp only [Act.put, zaj]; refine zah 18 rfl HS0.out (fun _ h => by obtain ⟨s0, s1, s2⟩ := h; go_simp; try rfl) ?_
      simp only [Act.put, zaj]; refine zah 19 rfl HS0.out (fun _ h => by obtain ⟨s0, s1, s2⟩ := h; go_simp; try rfl) ?_
      simp only [Act.put, zaj]; rw [HNM.out]; refine zah 20 rfl HS0.out (fun _ h => by obtain ⟨s0, s1, s2⟩ := h; go_simp; try rfl) ?_
      simp only [Act.put, zaj]; refine zaN (i := 21) rfl (by kernel_rfl) (fun K hK => ?_)
      go_simp
      obtain ⟨Z0, hZ0⟩ : ∃ z : World, z = Y.alloc (.cells #[.int .i64 0, .int .i64 0, .int .u8 0, .bool false, .string ⟨#[]⟩, .slice none 0 0, .int .i64 0] 75) := ⟨_, rfl⟩; rw [← hZ0]; have HBZ0 := zaa.mk (show Below wr.heap.size wr Z0 by rw [hZ0]; exact zai HBY.out (zad (Below.refl _ _) _))
      have HZN := zaa.mk (show Z0.heap[Y.heap.size]? = some (.cells #[.int .i64 0, .int .i64 0, .int .u8 0, .bool false, .string ⟨#[]⟩, .slice none 0 0, .int .i64 0] 75 (0, 0)) by rw [hZ0]; exact heap_alloc_new _ _)
      have HYS := zaa.mk (show wr.heap.size ≤ Y.heap.size from HBY.out.size)
      have HS1 := zaa.mk (HSX.out Z0 HBZ0.out); refine hK.out _ _ (fun _ => HS1.out) (fun _ => ?_)
      clear hK K; try simp only [Act.put, zaj]
      obtain ⟨bx, hbx⟩ : ∃ bx, bx = Y.heap.size := ⟨_, rfl⟩; rw [← hbx] at HZN HYS; rw [← hbx]; clear hZ0 hbx HS0 HBY; have r0 := zaf HZN.out 0; have f0 := zab HZN.out 0; have r1 := zaf HZN.out 1; have f1 := zab HZN.out 1; have r2 := zaf HZN.out 2; have f2 := zab HZN.out 2; have r3 := zaf HZN.out 3; have f3 := zab HZN.out 3; have r4 := zaf HZN.out 4; have f4 := zab HZN.out 4; have r5 := zaf HZN.out 5; have f5 := zab HZN.out 5; have r6 := zaf HZN.out 6; have f6 := zab HZN.out 6; have lz := zaO HZN.out; simp at r0 r1 r2 r3 r4 r5 r6; obtain ⟨Z, hZ, HBZ, HZC⟩ := put7 HZN.out HBZ0.out HYS.out (.int .i64 f) (.int .i64 e) (.int .u8 0) (.bool false) (.string nm) (.slice none 0 0) (.int .i64 0); have HBZ := zaa.mk HBZ; have HZC := zaa.mk HZC; have HS2 := zaa.mk (HSX.out Z HBZ.out); refine zaN (i := 22) rfl (by kernel_rfl) (fun K hK => ?_)
      go_simp
      rw [← hZ]; refine hK.out _ _ (fun _ => HS2.out) (fun _ => ?_)
      clear hK K; try simp only [Act.put, zaj]
      refine zbb (by kernel_rfl) (NoPanic.normal ?_) _
      clear hZ r0 r1 r2 r3 r4 r5 r6 f0 f1 f2 f3 f4 f5 f6 lz; go_wp2_with fail
      go_meet
      exact ⟨bx, rfl, ⟨HBZ.out, HYS.out, HZC.out⟩⟩
     case rest =>
      obtain ⟨bx, rfl, HX⟩ := hcut; obtain ⟨hbx, hsx, hcx⟩ := HX.out; have HBX9 := zaa.mk hbx; have HSX9 := zaa.mk hsx; have HCX9 := zaa.mk hcx; have HFC := zaa.mk (HFI.out.below hbx); obtain ⟨ad2, hA2, q0, q4, q5, q6⟩ := seen_at (Kd.zaT HC1.out HFC.out.low) i x HXI.out; obtain rfl := Option.some.inj hA2; obtain ⟨ad3, hA3, y0, y4, y5, y6⟩ := seen_at (Kd.zaT HC1.out HFC.out.low) u y HYI.out; obtain rfl := Option.some.inj hA3; rw [← HF.out] at q4; rw [← HE.out] at q5; rw [HU.out] at q6; have hui := HUI.out; have r4 := zaf hcx 4; simp at r4; clear hbx hsx hcx HX hA2 hA3; by_cases k66 : y.1.k = 66
      ·have d66 : (y.1.k == 66) = true := by simp [k66]
       have HF66 := zaa.mk (show findS L s (i + 1) = ((findS L s i).1, (findS L s i).2 ++ [(f, e, nm)]) by rw [HSTY.out, if_pos k66, HF.out, HE.out, HNX.out])
       have HUL := zaa.mk (show (findS L s i).2.length ≤ 1000000 by have := findS_len L s i (by omega); omega)
       clear k66; go_upto_region 12 with (fail)
       obtain ⟨Au, cu, eu⟩ := Kd.zbo HFC.out.ru; rw [List.length_map] at eu; subst eu; obtain ⟨X2, hX2⟩ : ∃ X2 : World, X2 = wc.drew := ⟨_, rfl⟩; have HB2 := zaa.mk (show Below wc.heap.size wc X2 by rw [hX2]; exact (Below.refl _ _).drew)
       have HF2 := zaa.mk (HFC.out.below HB2.out); have HSX := zaa.mk (fun (w : World) (hw : Below w1.heap.size w1 w) (hr : w.heap[bx]? = some (.cells #[.int .i64 f, .int .i64 e, .int .u8 0, .bool false, .string nm, .slice none 0 0, .int .i64 0] 75 (0, 0))) => (show w.cell? ⟨(ad.add (i * 7)).block, (ad.add (i * 7)).off + 4, none⟩ = some (.int .i64 f) ∧ w.cell? ⟨(ad.add (i * 7)).block, (ad.add (i * 7)).off + 5, none⟩ = some (.int .i64 e) ∧ w.cell? ⟨bx, 4, none⟩ = some (.string nm) ∧ bx < w.heap.size from by
        obtain ⟨ad2, e2, _, h4, h5, _⟩ := seen_at (Kd.zaT HC1.out hw) i x HXI.out; obtain rfl := Option.some.inj e2; rw [← HF.out] at h4; rw [← HE.out] at h5; have h6 := zaf hr 4; simp at h6; exact ⟨h4, h5, h6, zaO hr⟩))
       have HS0 := zaa.mk (HSX.out X2 HF2.out.low (zat HCX9.out HB2.out)); obtain ⟨g, cap, w5, hrun, hfi5, hbk5⟩ := use_app HF2.out HUL.out (f, e, nm) rfl; have HS10 := zaa.mk (HSX.out w5 hfi5.low (hbk5 _ _ (zat HCX9.out HB2.out))); have HF5 := zaa.mk hfi5; have HS9 := zaa.mk (HSX.out (X2.alloc (.cells #[.int .i64 f, .int .i64 e, .string nm] 77)) (zbN HF2.out.low (zad (Below.refl _ _) _) HF2.out.low.size) (zat (zat HCX9.out HB2.out) (zad (Below.refl _ _) _))); clear hfi5 hbk5 q0 q4 q5 q6 y0 y4 y5 y6 r4; refine wp_region_noPanic (zbn [0, 1, 2, 3, 4, 5, 6, 7, 8, 9, 10] (fun W' => W'.cell? ⟨(ad.add (i * 7)).block, (ad.add (i * 7)).off + 4, none⟩ = some (.int .i64 f) ∧ W'.cell? ⟨(ad.add (i * 7)).block, (ad.add (i * 7)).off + 5, none⟩ = some (.int .i64 e) ∧ W'.cell? ⟨bx, 4, none⟩ = some (.string nm) ∧ bx < W'.heap.size) mixD ?_)
       rw [← hX2]; clear hX2; refine zah 0 rfl HS0.out (fun _ h => by obtain ⟨s0, s1, s2, s3⟩ := h; go_simp; try rfl) ?_
       simp only [Act.put, zaj]; refine zah 1 rfl HS0.out (fun _ h => by obtain ⟨s0, s1, s2, s3⟩ := h; go_simp; try rfl) ?_
       simp only [Act.put, zaj]; refine zah 2 rfl HS0.out (fun _ h => by obtain ⟨s0, s1, s2, s3⟩ := h; go_simp; try rfl) ?_
       simp only [Act.put, zaj]; refine zah 3 rfl HS0.out (fun _ h => by obtain ⟨s0, s1, s2, s3⟩ := h; go_simp; try rfl) ?_
       simp only [Act.put, zaj]; refine zah 4 rfl HS0.out (fun _ h => by obtain ⟨s0, s1, s2, s3⟩ := h; go_simp; try rfl) ?_
       simp only [Act.put, zaj]; refine zah 5 rfl HS0.out (fun _ h => by obtain ⟨s0, s1, s2, s3⟩ := h; go_simp; try rfl) ?_
       simp only [Act.put, zaj]; refine zah 6 rfl HS0.out (fun _ h => by obtain ⟨s0, s1, s2, s3⟩ := h; go_simp; try rfl) ?_
       simp only [Act.put, zaj]; refine zah 7 rfl HS0.out (fun _ h => by obtain ⟨s0, s1, s2, s3⟩ := h; go_simp; try rfl) ?_
       simp only [Act.put, zaj]; refine zah 8 rfl HS0.out (fun _ h => by obtain ⟨s0, s1, s2, s3⟩ := h; go_simp; try rfl) ?_
       simp only [Act.put, zaj]; refine zaN (i := 9) rfl (by kernel_rfl) (fun K hK => ?_)
       go_simp
       refine hK.out _ _ (fun _ => HS9.out) (fun _ => ?_)
       clear hK K; try simp only [Act.put, zaj]
       refine zaN (i := 10) rfl (by kernel_rfl) (fun K hK => ?_)
       refine wpO_app (by rfl) _ _ _ rfl hrun ?_
       clear hrun; refine hK.out _ _ (fun _ => HS10.out) (fun _ => ?_)
       clear hK K; try simp only [Act.put, zaj]
       refine zaN (i := 11) rfl (by kernel_rfl) (fun K hK => ?_)
       go_simp
       refine hK.out _ _ (fun h => Bool.noConfusion (show false = true from h)) (fun _ => ?_)
       clear hK K; try simp only [Act.put, zaj]
       refine zbb (by kernel_rfl) (NoPanic.normal ?_) _
       go_wp2_with fail
       go_roundg (L.length - (i + 1))
       case measure => have := HKQ.out; omega
       case rel => exact ⟨i + 1, _, _, m, rfl, rfl, by go_num, by omega, ⟨rfl⟩, ⟨by rw [HF66.out]; exact HF5.out⟩, ⟨by rw [HF66.out]; exact HM.out⟩⟩
      ·have d66 : (y.1.k == 66) = false := by simp [k66]
       by_cases kD : y.1.k = 53 ∨ y.1.k = 54 ∨ y.1.k = 55
       ·obtain ⟨d, hd⟩ : ∃ d, d = mkD L s (findS L s i).1 x y u := ⟨_, rfl⟩
        have HFD := zaa.mk (show findS L s (i + 1) = ((findS L s i).1 ++ [d], (findS L s i).2) by rw [HSTY.out, if_neg k66, if_pos kD, hd])
        have HD1 := zaa.mk (show d.f = f ∧ d.t = e ∧ d.name = nm ∧ d.again = ((findS L s i).1.any fun c => decide (c.name = nm) && decide (c.home = d.home)) by rw [hd, HF.out, HE.out, HNX.out]; exact ⟨rfl, rfl, rfl, rfl⟩)
        have HU0 := zaa.mk (show 0 < u from Nat.pos_of_ne_zero fun e0 => by have := HOK.out.root y (by rw [← e0]; exact HYI.out); omega)
        have HD53 := zaa.mk (show y.1.k = 53 → d.kind = 1 ∧ d.home = homeK L y.2.2 ∧ d.counts = [⟨y.2.1 + y.1.wd, endS L (homeK L y.2.2)⟩] from fun h => by rw [hd]; unfold mkD; simp [h])
        have HD54 := zaa.mk (show y.1.k = 54 → d.kind = 2 ∧ d.home = homeK L y.2.2 ∧ d.counts = [⟨e, endS L (homeK L y.2.2)⟩] from fun h => by rw [hd, HE.out]; unfold mkD; simp [h])
        have HD55 := zaa.mk (show y.1.k = 55 → d.kind = 3 ∧ d.home = u ∧ d.counts = if kindS L y.2.2 = 54 then zbQ L y.2.2 else [] from fun h => by rw [hd]; unfold mkD; simp [h])
        clear hd k66
        go_upto_block 2 with (fail)
        go_cut [8, 12] (fun v8 v12 wx => v8 = vu ∧ ∃ vC, zaa (Below wr.heap.size wr wx ∧ wx.heap[bx]? = some (.cells #[.int .i64 f, .int .i64 e, .int .u8 d.kind, .bool false, .string nm, vC, .int .i64 d.home] 75 (0, 0)) ∧ Kd.R k41 41 wx w1.heap.size (fun q => w1.heap.size ≤ q) vC d.counts))
        case first =>
         as_aux_lemma =>
          rcases kD with k53 | k54 | k55
          ·obtain ⟨hdk, hdh, hdc⟩ := HD53.out k53
           have e53 : (y.1.k == 53) = true := by simp [k53]
           have e54 : (y.1.k == 54) = false := by simp [k53]
           clear k53; obtain ⟨h, hh⟩ : ∃ h : Nat, homeK L y.2.2 = h ∧ h < L.length := by
            have huy := HOK.out.up u y HYI.out; have h0 := huy.2.1 HU0.out; have hm := homeK_mem HOK.out _ y.2.2.toNat (Nat.lt_succ_self _) (by omega)
            rw [Int.toNat_of_nonneg h0] at hm; exact ⟨(homeK L y.2.2).toNat, by omega, by omega⟩
           obtain ⟨hh, hhl⟩ := hh; obtain ⟨z, hz⟩ : ∃ z, L[h]? = some z := ⟨_, List.getElem?_eq_getElem hhl⟩; have hend : endS L h = z.2.1 + z.1.wd := by unfold endS; rw [Int.toNat_natCast, hz]
           rw [hh] at hdh hdc; rw [hend] at hdc; have hcall := home_calls HOK.out (some ad) c1 wc (Kd.zaT HC1.out HFC.out.low) u y HYI.out HU0.out; rw [hh] at hcall; have HZI := zaa.mk hz; have HDD := zaa.mk (And.intro hdk (And.intro hdh hdc)); clear hdk hdh hdc hh hend hz r4; go_upto_region 15 with (go_at_call 48; refine hcall.mono ?_; rintro e_ w5 ⟨rfl, hb5⟩; have HB5 := zaa.mk hb5; have hc5 := zat HCX9.out hb5; have r6 := zaf hc5 6; have g6 := zab hc5 6; have lb := zaO hc5; simp at r6; clear hb5 hcall q0 q4 q5 q6 y0 y4 y5 y6)
           have HC6 := zaa.mk (show (w5.setCell ⟨bx, 6, none⟩ (.int .i64 h)).heap[bx]? = some (.cells #[.int .i64 f, .int .i64 e, .int .u8 0, .bool false, .string nm, .slice none 0 0, .int .i64 h] 75 (0, 0)) by simpa using zbt hc5 6 (.int .i64 h))
           have HBW5 := zaa.mk (show Below wr.heap.size wr (w5.setCell ⟨bx, 6, none⟩ (.int .i64 h)) from (zai HBX9.out HB5.out).setCell HSX9.out _)
           obtain ⟨V1, hV1⟩ : ∃ V1, V1 = w5.setCell ⟨bx, 6, none⟩ (.int .i64 h) := ⟨_, rfl⟩; rw [← hV1] at HC6 HBW5; rw [← hV1]; clear hV1 r6 g6 lb hc5; have r2 := zaf HC6.out 2; have g2 := zab HC6.out 2; have lb := zaO HC6.out; simp at r2; go_upto_region 16 with (fail)
           have HC2 := zaa.mk (show (V1.setCell ⟨bx, 2, none⟩ (.int .u8 1)).heap[bx]? = some (.cells #[.int .i64 f, .int .i64 e, .int .u8 1, .bool false, .string nm, .slice none 0 0, .int .i64 h] 75 (0, 0)) by simpa using zbt HC6.out 2 (.int .u8 1))
           have HBW2 := zaa.mk (show Below wr.heap.size wr (V1.setCell ⟨bx, 2, none⟩ (.int .u8 1)) from HBW5.out.setCell HSX9.out _)
           obtain ⟨V2, hV2⟩ : ∃ V2, V2 = V1.setCell ⟨bx, 2, none⟩ (.int .u8 1) := ⟨_, rfl⟩; rw [← hV2] at HC2 HBW2; change Code.wp Tryd.prog _ _ _ (V1.setCell ⟨bx, 2, none⟩ (.int .u8 1))
           rw [← hV2]; clear hV2 r2 g2 lb; obtain ⟨X2, hX2⟩ : ∃ X2 : World, X2 = V2.drew := ⟨_, rfl⟩; have HB2 := zaa.mk (show Below V2.heap.size V2 X2 by rw [hX2]; exact (Below.refl _ _).drew)
           have HBX2 := zaa.mk (zai HBW2.out HB2.out); have HCX2 := zaa.mk (zat HC2.out HB2.out); have HSX := zaa.mk (fun (w : World) (hw : Below wr.heap.size wr w) (hr : ∃ vv, w.heap[bx]? = some (.cells #[.int .i64 f, .int .i64 e, .int .u8 1, .bool false, .string nm, vv, .int .i64 h] 75 (0, 0))) => (show (w.cell? ⟨(ad.add (u * 7)).block, (ad.add (u * 7)).off + 5, none⟩ = some (.int .i64 (y.2.1 + y.1.wd)) ∧ w.cell? ⟨(ad.add (h * 7)).block, (ad.add (h * 7)).off + 5, none⟩ = some (.int .i64 (z.2.1 + z.1.wd)) ∧ w.cell? ⟨bx, 6, none⟩ = some (.int .i64 h) ∧ bx < w.heap.size) from by
            obtain ⟨vv, hr⟩ := hr; obtain ⟨ad2, e2, _, h4, h5, _⟩ := seen_at (Kd.zaT HC1.out (HFI.out.below hw).low) u y HYI.out; obtain rfl := Option.some.inj e2; obtain ⟨ad3, e3, _, k4, k5, _⟩ := seen_at (Kd.zaT HC1.out (HFI.out.below hw).low) h z HZI.out; obtain rfl := Option.some.inj e3; have h6 := zaf hr 6; simp at h6; exact ⟨h5, k5, h6, zaO hr⟩))
           have HS0 := zaa.mk (HSX.out X2 HBX2.out ⟨_, HCX2.out⟩); obtain ⟨e1, he1⟩ : ∃ e1, e1 = y.2.1 + y.1.wd := ⟨_, rfl⟩; obtain ⟨e2, he2⟩ : ∃ e2, e2 = z.2.1 + z.1.wd := ⟨_, rfl⟩; rw [← he1, ← he2] at HS0 HSX HDD; clear he1 he2; have hul : u < L.length := by omega
           have HFS := zaa.mk ((HFI.out.below HBX2.out).low.size)
           (try clear HST); (try clear HSTY); (try clear HYI); (try clear HKQ); (try clear HM); (try clear HNX); (try clear HU); (try clear HUI); (try clear hll); (try clear hi); (try clear HOK); (try clear HLL); (try clear HBX); (try clear HB1); (try clear HXI); (try clear HF); (try clear HE); (try clear HNM); (try clear HC1); (try clear HS); (try clear HZI); (try clear HFD); (try clear HD1); (try clear HU0); (try clear HD53); (try clear HD54); (try clear HD55); (try clear hfe0); (try clear hfe1); (try clear hfe2); (try clear HFC); (try clear HCX9); (try clear HBX9); (try clear HC6); (try clear HB5); (try clear HBW5); (try clear huu); (try clear huc); (try clear e53); (try clear e54); (try clear d66); (try clear HC2); (try clear HBW2); (try clear HB2); (try clear HFI)
           refine wp_region_noPanic (zbn [0, 1, 2, 3, 4, 5, 6, 7, 8, 9, 10, 11, 12, 13, 14, 15, 16] (fun W' => W'.cell? ⟨(ad.add (u * 7)).block, (ad.add (u * 7)).off + 5, none⟩ = some (.int .i64 e1) ∧ W'.cell? ⟨(ad.add (h * 7)).block, (ad.add (h * 7)).off + 5, none⟩ = some (.int .i64 e2) ∧ W'.cell? ⟨bx, 6, none⟩ = some (.int .i64 h) ∧ bx < W'.heap.size) mixD ?_)
           rw [← hX2]; clear hX2; refine zah 0 rfl HS0.out (fun _ h => by obtain ⟨s0, s1, s2, s3⟩ := h; go_simp; try rfl) ?_
           simp only [Act.put, zaj]; refine zah 1 rfl HS0.out (fun _ h => by obtain ⟨s0, s1, s2, s3⟩ := h; go_simp; try rfl) ?_
           simp only [Act.put, zaj]; refine zah 2 rfl HS0.out (fun _ h => by obtain ⟨s0, s1, s2, s3⟩ := h; go_simp; try rfl) ?_
           simp only [Act.put, zaj]; refine zah 3 rfl HS0.out (fun _ h => by obtain ⟨s0, s1, s2, s3⟩ := h; go_simp; try rfl) ?_
           simp only [Act.put, zaj]; refine zah 4 rfl HS0.out (fun _ h => by obtain ⟨s0, s1, s2, s3⟩ := h; go_simp; try rfl) ?_
           simp only [Act.put, zaj]; refine zah 5 rfl HS0.out (fun _ h => by obtain ⟨s0, s1, s2, s3⟩ := h; go_simp; try rfl) ?_
           simp only [Act.put, zaj]; refine zah 6 rfl HS0.out (fun _ h => by obtain ⟨s0, s1, s2, s3⟩ := h; go_simp; try rfl) ?_
           simp only [Act.put, zaj]; refine zah 7 rfl HS0.out (fun _ h => by obtain ⟨s0, s1, s2, s3⟩ := h; go_simp; try rfl) ?_
           simp only [Act.put, zaj]; refine zah 8 rfl HS0.out (fun _ h => by obtain ⟨s0, s1, s2, s3⟩ := h; go_simp; try rfl) ?_
           simp only [Act.put, zaj]; refine zah 9 rfl HS0.out (fun _ h => by obtain ⟨s0, s1, s2, s3⟩ := h; go_simp; try rfl) ?_
           simp only [Act.put, zaj]; refine zah 10 rfl HS0.out (fun _ h => by obtain ⟨s0, s1, s2, s3⟩ := h; go_simp; try rfl) ?_
           simp only [Act.put, zaj]; refine zah 11 rfl HS0.out (fun _ h => by obtain ⟨s0, s1, s2, s3⟩ := h; go_simp; try rfl) ?_
           simp only [Act.put, zaj]; refine zah 12 rfl HS0.out (fun _ h => by obtain ⟨s0, s1, s2, s3⟩ := h; go_simp; try rfl) ?_
           simp only [Act.put, zaj]; refine zah 13 rfl HS0.out (fun _ h => by obtain ⟨s0, s1, s2, s3⟩ := h; go_simp; try rfl) ?_
           simp only [Act.put, zaj]; refine zaN (i := 14) rfl (by kernel_rfl) (fun K hK => ?_)
           go_simp
           obtain ⟨X3, hX3⟩ : ∃ X3 : World, X3 = X2.alloc (.cells #[.int .i64 e1, .int .i64 e2] 41) := ⟨_, rfl⟩; rw [← hX3]; have HB3 := zaa.mk (show Below X2.heap.size X2 X3 by rw [hX3]; exact zad (Below.refl _ _) _)
           have HR3 := zaa.mk (show Kd.R k41 41 X3 w1.heap.size (fun q => w1.heap.size ≤ q) (.slice (some ⟨X2.heap.size, 0, none⟩) 1 1) [⟨e1, e2⟩] by rw [hX3]; exact R_span1 HFS.out _ _)
           have HCX3 := zaa.mk (zat HCX2.out HB3.out); have HBX3 := zaa.mk (zai HBX2.out HB3.out); have HS3 := zaa.mk (HSX.out X3 HBX3.out ⟨_, HCX3.out⟩); refine hK.out _ _ (fun _ => HS3.out) (fun _ => ?_)
           clear hK K; try simp only [Act.put, zaj]
           clear hX3 HS0; obtain ⟨bs, hbs⟩ : ∃ bs, bs = X2.heap.size := ⟨_, rfl⟩; rw [← hbs] at HR3; rw [← hbs]; clear hbs; refine zah 15 rfl HS3.out (fun _ h => by obtain ⟨s0, s1, s2, s3⟩ := h; go_simp; try rfl) ?_
           simp only [Act.put, zaj]; have r5 := zaf HCX3.out 5; have g5 := zab HCX3.out 5; have lb := zaO HCX3.out; simp at r5; have HC4 := zaa.mk (show (X3.setCell ⟨bx, 5, none⟩ (.slice (some ⟨bs, 0, none⟩) 1 1)).heap[bx]? = some (.cells #[.int .i64 f, .int .i64 e, .int .u8 1, .bool false, .string nm, .slice (some ⟨bs, 0, none⟩) 1 1, .int .i64 h] 75 (0, 0)) by simpa using zbt HCX3.out 5 (.slice (some ⟨bs, 0, none⟩) 1 1))
           have HB4 := zaa.mk (show Below wr.heap.size wr (X3.setCell ⟨bx, 5, none⟩ (.slice (some ⟨bs, 0, none⟩) 1 1)) from HBX3.out.setCell HSX9.out _)
           have HR4 := zaa.mk (Kd.R_set HR3.out HCX3.out (by decide) 5 (.slice (some ⟨bs, 0, none⟩) 1 1))
           have HS4 := zaa.mk (HSX.out _ HB4.out ⟨_, HC4.out⟩); refine zaN (i := 16) rfl (by kernel_rfl) (fun K hK => ?_)
           go_simp
           refine hK.out _ _ (fun _ => HS4.out) (fun _ => ?_)
           clear hK K; try simp only [Act.put, zaj]
           refine zbb (by kernel_rfl) (NoPanic.normal ?_) _
           clear r5 g5 lb; go_wp2_with fail
           go_meet
           exact ⟨rfl, _, ⟨HB4.out, by rw [HDD.out.1, HDD.out.2.1]; exact HC4.out, by rw [HDD.out.2.2]; exact HR4.out⟩⟩
          ·obtain ⟨hdk, hdh, hdc⟩ := HD54.out k54
           have e53 : (y.1.k == 53) = false := by simp [k54]
           have e54 : (y.1.k == 54) = true := by simp [k54]
           clear k54; obtain ⟨h, hh⟩ : ∃ h : Nat, homeK L y.2.2 = h ∧ h < L.length := by
            have huy := HOK.out.up u y HYI.out; have h0 := huy.2.1 HU0.out; have hm := homeK_mem HOK.out _ y.2.2.toNat (Nat.lt_succ_self _) (by omega)
            rw [Int.toNat_of_nonneg h0] at hm; exact ⟨(homeK L y.2.2).toNat, by omega, by omega⟩
           obtain ⟨hh, hhl⟩ := hh; obtain ⟨z, hz⟩ : ∃ z, L[h]? = some z := ⟨_, List.getElem?_eq_getElem hhl⟩; have hend : endS L h = z.2.1 + z.1.wd := by unfold endS; rw [Int.toNat_natCast, hz]
           rw [hh] at hdh hdc; rw [hend] at hdc; have hcall := home_calls HOK.out (some ad) c1 wc (Kd.zaT HC1.out HFC.out.low) u y HYI.out HU0.out; rw [hh] at hcall; have HZI := zaa.mk hz; have HDD := zaa.mk (And.intro hdk (And.intro hdh hdc)); clear hdk hdh hdc hh hend hz r4; go_upto_region 19 with (go_at_call 48; refine hcall.mono ?_; rintro e_ w5 ⟨rfl, hb5⟩; have HB5 := zaa.mk hb5; have hc5 := zat HCX9.out hb5; have r6 := zaf hc5 6; have g6 := zab hc5 6; have lb := zaO hc5; simp at r6; clear hb5 hcall q0 q4 q5 q6 y0 y4 y5 y6)
           have HC6 := zaa.mk (show (w5.setCell ⟨bx, 6, none⟩ (.int .i64 h)).heap[bx]? = some (.cells #[.int .i64 f, .int .i64 e, .int .u8 0, .bool false, .string nm, .slice none 0 0, .int .i64 h] 75 (0, 0)) by simpa using zbt hc5 6 (.int .i64 h))
           have HBW5 := zaa.mk (show Below wr.heap.size wr (w5.setCell ⟨bx, 6, none⟩ (.int .i64 h)) from (zai HBX9.out HB5.out).setCell HSX9.out _)
           obtain ⟨V1, hV1⟩ : ∃ V1, V1 = w5.setCell ⟨bx, 6, none⟩ (.int .i64 h) := ⟨_, rfl⟩; rw [← hV1] at HC6 HBW5; rw [← hV1]; clear hV1 r6 g6 lb hc5; have r2 := zaf HC6.out 2; have g2 := zab HC6.out 2; have lb := zaO HC6.out; simp at r2; go_upto_region 20 with (fail)
           have HC2 := zaa.mk (show (V1.setCell ⟨bx, 2, none⟩ (.int .u8 2)).heap[bx]? = some (.cells #[.int .i64 f, .int .i64 e, .int .u8 2, .bool false, .string nm, .slice none 0 0, .int .i64 h] 75 (0, 0)) by simpa using zbt HC6.out 2 (.int .u8 2))
           have HBW2 := zaa.mk (show Below wr.heap.size wr (V1.setCell ⟨bx, 2, none⟩ (.int .u8 2)) from HBW5.out.setCell HSX9.out _)
           obtain ⟨V2, hV2⟩ : ∃ V2, V2 = V1.setCell ⟨bx, 2, none⟩ (.int .u8 2) := ⟨_, rfl⟩; rw [← hV2] at HC2 HBW2; change Code.wp Tryd.prog _ _ _ (V1.setCell ⟨bx, 2, none⟩ (.int .u8 2))
           rw [← hV2]; clear hV2 r2 g2 lb; obtain ⟨X2, hX2⟩ : ∃ X2 : World, X2 = V2.drew := ⟨_, rfl⟩; have HB2 := zaa.mk (show Below V2.heap.size V2 X2 by rw [hX2]; exact (Below.refl _ _).drew)
           have HBX2 := zaa.mk (zai HBW2.out HB2.out); have HCX2 := zaa.mk (zat HC2.out HB2.out); have HSX := zaa.mk (fun (w : World) (hw : Below wr.heap.size wr w) (hr : ∃ vv, w.heap[bx]? = some (.cells #[.int .i64 f, .int .i64 e, .int .u8 2, .bool false, .string nm, vv, .int .i64 h] 75 (0, 0))) => (show (w.cell? ⟨(ad.add (i * 7)).block, (ad.add (i * 7)).off + 5, none⟩ = some (.int .i64 (e)) ∧ w.cell? ⟨(ad.add (h * 7)).block, (ad.add (h * 7)).off + 5, none⟩ = some (.int .i64 (z.2.1 + z.1.wd)) ∧ w.cell? ⟨bx, 6, none⟩ = some (.int .i64 h) ∧ bx < w.heap.size) from by
            obtain ⟨vv, hr⟩ := hr; obtain ⟨ad2, e2, _, h4, h5, _⟩ := seen_at (Kd.zaT HC1.out (HFI.out.below hw).low) i x HXI.out; obtain rfl := Option.some.inj e2; obtain ⟨ad3, e3, _, k4, k5, _⟩ := seen_at (Kd.zaT HC1.out (HFI.out.below hw).low) h z HZI.out; obtain rfl := Option.some.inj e3; have h6 := zaf hr 6; simp at h6; exact ⟨by rw [HE.out]; exact h5, k5, h6, zaO hr⟩))
           have HS0 := zaa.mk (HSX.out X2 HBX2.out ⟨_, HCX2.out⟩); obtain ⟨e1, he1⟩ : ∃ e1, e1 = e := ⟨_, rfl⟩; obtain ⟨e2, he2⟩ : ∃ e2, e2 = z.2.1 + z.1.wd := ⟨_, rfl⟩; rw [← he2] at HS0 HSX HDD; clear he2; have hul : u < L.length := by omega
           have HFS := zaa.mk ((HFI.out.below HBX2.out).low.size)
           (try clear HST); (try clear HSTY); (try clear HYI); (try clear HKQ); (try clear HM); (try clear HNX); (try clear HU); (try clear HUI); (try clear hll); (try clear hi); (try clear HOK); (try clear HLL); (try clear HBX); (try clear HB1); (try clear HXI); (try clear HF); (try clear HE); (try clear HNM); (try clear HC1); (try clear HS); (try clear HZI); (try clear HFD); (try clear HD1); (try clear HU0); (try clear HD53); (try clear HD54); (try clear HD55); (try clear hfe0); (try clear hfe1); (try clear hfe2); (try clear HFC); (try clear HCX9); (try clear HBX9); (try clear HC6); (try clear HB5); (try clear HBW5); (try clear huu); (try clear huc); (try clear e53); (try clear e54); (try clear d66); (try clear HC2); (try clear HBW2); (try clear HB2); (try clear HFI)
           refine wp_region_noPanic (zbn [0, 1, 2, 3, 4, 5, 6, 7, 8, 9, 10, 11, 12, 13, 14, 15, 16] (fun W' => W'.cell? ⟨(ad.add (i * 7)).block, (ad.add (i * 7)).off + 5, none⟩ = some (.int .i64 e) ∧ W'.cell? ⟨(ad.add (h * 7)).block, (ad.add (h * 7)).off + 5, none⟩ = some (.int .i64 e2) ∧ W'.cell? ⟨bx, 6, none⟩ = some (.int .i64 h) ∧ bx < W'.heap.size) mixD ?_)
           rw [← hX2]; clear hX2; refine zah 0 rfl HS0.out (fun _ h => by obtain ⟨s0, s1, s2, s3⟩ := h; go_simp; try rfl) ?_
           simp only [Act.put, zaj]; refine zah 1 rfl HS0.out (fun _ h => by obtain ⟨s0, s1, s2, s3⟩ := h; go_simp; try rfl) ?_
           simp only [Act.put, zaj]; refine zah 2 rfl HS0.out (fun _ h => by obtain ⟨s0, s1, s2, s3⟩ := h; go_simp; try rfl) ?_
           simp only [Act.put, zaj]; refine zah 3 rfl HS0.out (fun _ h => by obtain ⟨s0, s1, s2, s3⟩ := h; go_simp; try rfl) ?_
           simp only [Act.put, zaj]; refine zah 4 rfl HS0.out (fun _ h => by obtain ⟨s0, s1, s2, s3⟩ := h; go_simp; try rfl) ?_
           simp only [Act.put, zaj]; refine zah 5 rfl HS0.out (fun _ h => by obtain ⟨s0, s1, s2, s3⟩ := h; go_simp; try rfl) ?_
           simp only [Act.put, zaj]; refine zah 6 rfl HS0.out (fun _ h => by obtain ⟨s0, s1, s2, s3⟩ := h; go_simp; try rfl) ?_
           simp only [Act.put, zaj]; refine zah 7 rfl HS0.out (fun _ h => by obtain ⟨s0, s1, s2, s3⟩ := h; go_simp; try rfl) ?_
           simp only [Act.put, zaj]; refine zah 8 rfl HS0.out (fun _ h => by obtain ⟨s0, s1, s2, s3⟩ := h; go_simp; try rfl) ?_
           simp only [Act.put, zaj]; refine zah 9 rfl HS0.out (fun _ h => by obtain ⟨s0, s1, s2, s3⟩ := h; go_simp; try rfl) ?_
           simp only [Act.put, zaj]; refine zah 10 rfl HS0.out (fun _ h => by obtain ⟨s0, s1, s2, s3⟩ := h; go_simp; try rfl) ?_
           simp only [Act.put, zaj]; refine zah 11 rfl HS0.out (fun _ h => by obtain ⟨s0, s1, s2, s3⟩ := h; go_simp; try rfl) ?_
           simp only [Act.put, zaj]; refine zah 12 rfl HS0.out (fun _ h => by obtain ⟨s0, s1, s2, s3⟩ := h; go_simp; try rfl) ?_
           simp only [Act.put, zaj]; refine zah 13 rfl HS0.out (fun _ h => by obtain ⟨s0, s1, s2, s3⟩ := h; go_simp; try rfl) ?_
           simp only [Act.put, zaj]; refine zaN (i := 14) rfl (by kernel_rfl) (fun K hK => ?_)
           go_simp
           obtain ⟨X3, hX3⟩ : ∃ X3 : World, X3 = X2.alloc (.cells #[.int .i64 e, .int .i64 e2] 41) := ⟨_, rfl⟩; rw [← hX3]; have HB3 := zaa.mk (show Below X2.heap.size X2 X3 by rw [hX3]; exact zad (Below.refl _ _) _)
           have HR3 := zaa.mk (show Kd.R k41 41 X3 w1.heap.size (fun q => w1.heap.size ≤ q) (.slice (some ⟨X2.heap.size, 0, none⟩) 1 1) [⟨e, e2⟩] by rw [hX3]; exact R_span1 HFS.out _ _)
           have HCX3 := zaa.mk (zat HCX2.out HB3.out); have HBX3 := zaa.mk (zai HBX2.out HB3.out); have HS3 := zaa.mk (HSX.out X3 HBX3.out ⟨_, HCX3.out⟩); refine hK.out _ _ (fun _ => HS3.out) (fun _ => ?_)
           clear hK K; try simp only [Act.put, zaj]
           clear hX3 HS0; obtain ⟨bs, hbs⟩ : ∃ bs, bs = X2.heap.size := ⟨_, rfl⟩; rw [← hbs] at HR3; rw [← hbs]; clear hbs; refine zah 15 rfl HS3.out (fun _ h => by obtain ⟨s0, s1, s2, s3⟩ := h; go_simp; try rfl) ?_
           simp only [Act.put, zaj]; have r5 := zaf HCX3.out 5; have g5 := zab HCX3.out 5; have lb := zaO HCX3.out; simp at r5; have HC4 := zaa.mk (show (X3.setCell ⟨bx, 5, none⟩ (.slice (some ⟨bs, 0, none⟩) 1 1)).heap[bx]? = some (.cells #[.int .i64 f, .int .i64 e, .int .u8 2, .bool false, .string nm, .slice (some ⟨bs, 0, none⟩) 1 1, .int .i64 h] 75 (0, 0)) by simpa using zbt HCX3.out 5 (.slice (some ⟨bs, 0, none⟩) 1 1))
           have HB4 := zaa.mk (show Below wr.heap.size wr (X3.setCell ⟨bx, 5, none⟩ (.slice (some ⟨bs, 0, none⟩) 1 1)) from HBX3.out.setCell HSX9.out _)
           have HR4 := zaa.mk (Kd.R_set HR3.out HCX3.out (by decide) 5 (.slice (some ⟨bs, 0, none⟩) 1 1))
           have HS4 := zaa.mk (HSX.out _ HB4.out ⟨_, HC4.out⟩); refine zaN (i := 16) rfl (by kernel_rfl) (fun K hK => ?_)
           go_simp
           refine hK.out _ _ (fun _ => HS4.out) (fun _ => ?_)
           clear hK K; try simp only [Act.put, zaj]
           refine zbb (by kernel_rfl) (NoPanic.normal ?_) _
           clear r5 g5 lb; go_wp2_with fail
           go_meet
           exact ⟨rfl, _, ⟨HB4.out, by rw [HDD.out.1, HDD.out.2.1]; exact HC4.out, by rw [HDD.out.2.2]; exact HR4.out⟩⟩
          ·obtain ⟨hdk, hdh, hdc⟩ := HD55.out k55
           have e53 : (y.1.k == 53) = false := by simp [k55]
           have e54 : (y.1.k == 54) = false := by simp [k55]
           have e55 : (y.1.k == 55) = true := by simp [k55]
           clear k55; have huy := HOK.out.up u y HYI.out; have h0 := huy.2.1 HU0.out; obtain ⟨p, hp⟩ : ∃ p : Nat, y.2.2 = p := ⟨y.2.2.toNat, by omega⟩
           obtain ⟨z, hz⟩ : ∃ z, L[p]? = some z := ⟨_, List.getElem?_eq_getElem (by omega)⟩
           have hkz : kindS L y.2.2 = z.1.k := by rw [hp]; unfold kindS; rw [if_neg (by omega), Int.toNat_natCast, hz]
           rw [hkz, hp] at hdc; have hpl : p < L.length := by omega
           have hul : u < L.length := by omega
           have HZI := zaa.mk hz; have HPI := zaa.mk hp; have HDD := zaa.mk (And.intro hdk (And.intro hdh hdc)); clear hdk hdh hdc hkz hz h0 huy hp r4 q0 q4 q5 q6 y0 y4 y5 y6; have r6 := zaf HCX9.out 6; have g6 := zab HCX9.out 6; have lb := zaO HCX9.out; simp at r6; go_upto_region 23 with (fail)
           have HC6 := zaa.mk (show (wc.setCell ⟨bx, 6, none⟩ (.int .i64 u)).heap[bx]? = some (.cells #[.int .i64 f, .int .i64 e, .int .u8 0, .bool false, .string nm, .slice none 0 0, .int .i64 u] 75 (0, 0)) by simpa using zbt HCX9.out 6 (.int .i64 u))
           have HBW5 := zaa.mk (show Below wr.heap.size wr (wc.setCell ⟨bx, 6, none⟩ (.int .i64 u)) from HBX9.out.setCell HSX9.out _)
           obtain ⟨V1, hV1⟩ : ∃ V1, V1 = wc.setCell ⟨bx, 6, none⟩ (.int .i64 u) := ⟨_, rfl⟩; rw [← hV1] at HC6 HBW5; change Code.wp Tryd.prog _ _ _ (wc.setCell ⟨bx, 6, none⟩ (.int .i64 u))
           rw [← hV1]; clear hV1 r6 g6 lb; have r2 := zaf HC6.out 2; have g2 := zab HC6.out 2; have lb := zaO HC6.out; simp at r2; go_upto_region 24 with (fail)
           have HC2 := zaa.mk (show (V1.setCell ⟨bx, 2, none⟩ (.int .u8 3)).heap[bx]? = some (.cells #[.int .i64 f, .int .i64 e, .int .u8 3, .bool false, .string nm, .slice none 0 0, .int .i64 u] 75 (0, 0)) by simpa using zbt HC6.out 2 (.int .u8 3))
           have HBW2 := zaa.mk (show Below wr.heap.size wr (V1.setCell ⟨bx, 2, none⟩ (.int .u8 3)) from HBW5.out.setCell HSX9.out _)
           obtain ⟨V2, hV2⟩ : ∃ V2, V2 = V1.setCell ⟨bx, 2, none⟩ (.int .u8 3) := ⟨_, rfl⟩; rw [← hV2] at HC2 HBW2; change Code.wp Tryd.prog _ _ _ (V1.setCell ⟨bx, 2, none⟩ (.int .u8 3))
           rw [← hV2]; clear hV2 r2 g2 lb; have HFV := zaa.mk (HFI.out.below HBW2.out); obtain ⟨ad2, hA2, y0, _, _, y6⟩ := seen_at (Kd.zaT HC1.out HFV.out.low) u y HYI.out; obtain rfl := Option.some.inj hA2; obtain ⟨ad3, hA3, z0, _, _, _⟩ := seen_at (Kd.zaT HC1.out HFV.out.low) p z HZI.out; obtain rfl := Option.some.inj hA3; rw [HPI.out] at y6; clear hA2 hA3; by_cases kz : z.1.k = 54
           ·have dz : (z.1.k == 54) = true := by simp [kz]
            have HDC := zaa.mk (show d.counts = zbQ L p by rw [HDD.out.2.2, if_pos kz])
            clear kz; have hcall := blocks_calls HLL.out (some ad) c1 V2 (Kd.zaT HC1.out HFV.out.low) p; go_wp2_with (go_at_call 49; refine hcall.mono ?_; rintro e_ w5 ⟨v5, rfl, hR5, hb5⟩; obtain ⟨Ab, cb, eb⟩ := Kd.zbo hR5; subst eb; have HB5 := zaa.mk hb5; have HR5 := zaa.mk hR5; have hc5 := zat HC2.out hb5; have r5 := zaf hc5 5; have g5 := zab hc5 5; have lb := zaO hc5; simp at r5; clear hb5 hcall hR5 y0 y6 z0)
            go_meet
            exact ⟨rfl, _, ⟨(zai HBW2.out HB5.out).setCell HSX9.out _, by rw [HDD.out.1, HDD.out.2.1]; simpa using zbt hc5 5 (.slice Ab (zbQ L p).length cb), by rw [HDC.out]; exact Kd.R_set (Kd.zbT (Kd.zbz HR5.out (HFV.out.low.size)) (fun _ hq => Nat.le_trans HFV.out.low.size hq)) hc5 (by decide) 5 _⟩⟩
           ·have dz : (z.1.k == 54) = false := by simp [kz]
            have HDC := zaa.mk (show d.counts = [] by rw [HDD.out.2.2, if_neg kz])
            clear kz; go_wp2
            go_meet
            exact ⟨rfl, _, ⟨HBW2.out, by rw [HDD.out.1, HDD.out.2.1]; exact HC2.out, by rw [HDC.out]; exact Kd.R_nil _ _ _ _ _⟩⟩
        case rest =>
         obtain ⟨h8, vC, HX2⟩ := hcut; subst h8; obtain ⟨vu, rfl⟩ : ∃ v_ : Value, v_ = u8 := ⟨_, rfl⟩; obtain ⟨hb2, hc2, hr2⟩ := HX2.out; have HB2 := zaa.mk hb2; have HC2 := zaa.mk hc2; have HR2 := zaa.mk hr2; have HFV := zaa.mk (HFI.out.below hb2); obtain ⟨Ad, cd, ed⟩ := Kd.zbo HFI.out.rd; rw [List.length_map] at ed; subst ed; have HML := zaa.mk (show m.length ≤ 1000000 by have h1 := congrArg List.length HM.out; rw [List.length_map] at h1; have := findS_len L s i (by omega); omega)
         obtain ⟨AC, cC, eC⟩ := Kd.zbo hr2; obtain ⟨dn, hdn⟩ : ∃ dn, dn = d.counts.length := ⟨_, rfl⟩; rw [← hdn] at eC; subst eC; obtain ⟨dk, hdk⟩ : ∃ dk, dk = d.kind := ⟨_, rfl⟩; obtain ⟨dh, hdh⟩ : ∃ dh, dh = d.home := ⟨_, rfl⟩; rw [← hdk, ← hdh] at HC2; have HDK := zaa.mk (And.intro hdk hdh); clear hb2 hc2 hr2 HX2 kD hdk hdh hdn q0 q4 q5 q6 y0 y4 y5 y6 r4; have hml := HML.out; obtain ⟨wo, rfl⟩ : ∃ w_ : World, w_ = wr := ⟨_, rfl⟩; go_wp2
         go_loopg [13] m.length (fun kq v13 w' => ∃ (j : Nat) (ag : Bool), v13 = .int .i64 j ∧ j ≤ m.length ∧ zaa (kq = m.length - j) ∧ zaa (ag = ((m.take j).any fun c => decide (c.1.name = nm) && decide (c.1.home = dh))) ∧ zaa (Below wo.heap.size wo w' ∧ w'.heap[bx]? = some (.cells #[.int .i64 f, .int .i64 e, .int .u8 dk, .bool ag, .string nm, .slice AC dn cC, .int .i64 dh] 75 (0, 0)) ∧ Kd.R k41 41 w' w1.heap.size (fun q => w1.heap.size ≤ q) (.slice AC dn cC) d.counts))
         case atStart => exact ⟨0, false, rfl, Nat.zero_le _, ⟨rfl⟩, ⟨by simp⟩, ⟨HB2.out, HC2.out, HR2.out⟩⟩
         case round =>
          obtain ⟨j, ag, rfl, hj, HKJ, HAG, HJ⟩ := hrel; obtain ⟨hbj, hcj, hrj⟩ := HJ.out; have HBJ := zaa.mk hbj; have HCJ := zaa.mk hcj; have HRJ := zaa.mk hrj; have r4 := zaf hcj 4; have r6 := zaf hcj 6; have g3 := zab hcj 3; have r3 := zaf hcj 3; have lb := zaO hcj; simp at r3 r4 r6; clear hbj hcj hrj HJ; by_cases hjl : j < m.length
          ·obtain ⟨c, hc⟩ : ∃ c, m[j]? = some c := ⟨_, List.getElem?_eq_getElem hjl⟩
           obtain ⟨adm, e0, c4, c6⟩ := decl_at (Kd.za0 (HFI.out.below HBJ.out).rd).2.2 j c hc; subst e0; have HAJ := zaa.mk (show ((m.take (j + 1)).any fun c => decide (c.1.name = nm) && decide (c.1.home = dh)) = (ag || (decide (c.1.name = nm) && decide (c.1.home = dh))) by rw [List.take_add_one, hc, List.any_append, ← HAG.out]; simp)
           clear hc; obtain ⟨cn, hcn⟩ : ∃ cn, cn = c.1.name := ⟨_, rfl⟩; obtain ⟨ch, hch⟩ : ∃ ch, ch = c.1.home := ⟨_, rfl⟩; rw [← hcn] at c4 HAJ; rw [← hch] at c6 HAJ; clear hcn hch; by_cases n1 : cn = nm
           ·have e1 : (cn.toList == nm.toList) = true := by rw [n1]; simp
            by_cases n2 : ch = dh
            ·have e2 : (ch == dh) = true := by simp [n2]
             have HAT := zaa.mk (show true = ((m.take (j + 1)).any fun c => decide (c.1.name = nm) && decide (c.1.home = dh)) by rw [HAJ.out, decide_eq_true n1, decide_eq_true n2]; simp)
             clear n1 n2; go_upto_region 30 with (fail)
             go_quiet (fail)
             have HBQ := zaa.mk (show Below wr.heap.size wr (wr.drewN nq) from ⟨rfl, rfl, rfl, Nat.le_refl _, fun _ _ => rfl⟩)
             obtain ⟨wq, hwq⟩ : ∃ wq : World, wq = wr.drewN nq := ⟨_, rfl⟩; rw [← hwq] at HBQ; rw [← hwq]; have HCQ := zaa.mk (zat HCJ.out HBQ.out); have HRQ := zaa.mk (Kd.zbm HRJ.out HBQ.out); clear hwq r3 r4 r6 g3 lb c4 c6; have r3 := zaf HCQ.out 3; have g3 := zab HCQ.out 3; have lb := zaO HCQ.out; simp at r3; go_wp2
             go_roundg (m.length - (j + 1))
             case measure => have := HKJ.out; omega
             case rel => exact ⟨j + 1, true, by go_num, by omega, ⟨rfl⟩, HAT, ⟨(zai HBJ.out HBQ.out).setCell HSX9.out _, by simpa using zbt HCQ.out 3 (.bool true), Kd.R_set HRQ.out HCQ.out (by decide) 3 (.bool true)⟩⟩
            ·have e2 : (ch == dh) = false := by simp [n2]
             have HAT := zaa.mk (show ag = ((m.take (j + 1)).any fun c => decide (c.1.name = nm) && decide (c.1.home = dh)) by rw [HAJ.out, decide_eq_false n2]; simp)
             clear n1 n2; go_upto_region 30 with (fail)
             go_quiet (fail)
             have HBQ := zaa.mk (show Below wr.heap.size wr (wr.drewN nq) from ⟨rfl, rfl, rfl, Nat.le_refl _, fun _ _ => rfl⟩)
             go_wp2
             go_roundg (m.length - (j + 1))
             case measure => have := HKJ.out; omega
             case rel => exact ⟨j + 1, ag, by go_num, by omega, ⟨rfl⟩, HAT, ⟨zai HBJ.out HBQ.out, zat HCJ.out HBQ.out, Kd.zbm HRJ.out HBQ.out⟩⟩
           ·have e1 : (cn.toList == nm.toList) = false := beq_eq_false_iff_ne.mpr (fun h => n1 (ba_inj h))
            have HAT := zaa.mk (show ag = ((m.take (j + 1)).any fun c => decide (c.1.name = nm) && decide (c.1.home = dh)) by rw [HAJ.out, decide_eq_false n1]; simp)
            clear n1; go_upto_region 30 with (fail)
            go_quiet (fail)
            have HBQ := zaa.mk (show Below wr.heap.size wr (wr.drewN nq) from ⟨rfl, rfl, rfl, Nat.le_refl _, fun _ _ => rfl⟩)
            go_wp2
            go_roundg (m.length - (j + 1))
            case measure => have := HKJ.out; omega
            case rel => exact ⟨j + 1, ag, by go_num, by omega, ⟨rfl⟩, HAT, ⟨zai HBJ.out HBQ.out, zat HCJ.out HBQ.out, Kd.zbm HRJ.out HBQ.out⟩⟩
          ·have hje : j = m.length := by omega
           have HAE := zaa.mk (show ag = d.again by rw [HAG.out, hje, List.take_length, HD1.out.2.2.2, ← HM.out, List.any_map, ← HDK.out.2]; rfl)
           have HFJ := zaa.mk (HFI.out.below HBJ.out); have HDR := zaa.mk (show rawD (d, .slice AC dn cC) = [.int .i64 f, .int .i64 e, .int .u8 dk, .bool ag, .string nm, .slice AC dn cC, .int .i64 dh] by rw [HAE.out]; simp only [rawD, HD1.out.1, HD1.out.2.1, HD1.out.2.2.1, HDK.out.1, HDK.out.2])
           have r0 := zaf HCJ.out 0; have r1 := zaf HCJ.out 1; have r2 := zaf HCJ.out 2; have r5 := zaf HCJ.out 5; simp at r0 r1 r2 r5; clear hje; obtain ⟨Y, hY⟩ : ∃ Y : World, Y = wr.alloc (.cells #[.int .i64 f, .int .i64 e, .int .u8 dk, .bool ag, .string nm, .slice AC dn cC, .int .i64 dh] 75) := ⟨_, rfl⟩; obtain ⟨g, cap, w5, hrun, hfi5⟩ := decl_app HFJ.out HML.out (d, .slice AC dn cC) HRJ.out (show Y = wr.alloc (.cells (rawD (d, .slice AC dn cC)).toArray 75) by rw [hY, HDR.out])
           have HF5 := zaa.mk hfi5; have HM5 := zaa.mk (show (m ++ [(d, Value.slice AC dn cC)]).map (·.1) = (findS L s i).1 ++ [d] by rw [List.map_append, HM.out]; rfl)
           rw [hY] at hrun; clear hY hfi5; go_wp2_with (at_builtin; refine wpL_app rfl _ _ _ rfl hrun ?_; clear hrun)
           go_roundg (L.length - (i + 1))
           case measure => have := HKQ.out; omega
           case rel => exact ⟨i + 1, _, _, (m ++ [(d, Value.slice AC dn cC)]), rfl, rfl, by go_num, by omega, ⟨rfl⟩, ⟨by rw [HFD.out]; exact HF5.out⟩, ⟨by rw [HFD.out]; exact HM5.out⟩⟩
       ·have e53 : (y.1.k == 53) = false := by simp; omega
        have e54 : (y.1.k == 54) = false := by simp; omega
        have e55 : (y.1.k == 55) = false := by simp; omega
        have HFN := zaa.mk (show findS L s (i + 1) = findS L s i by rw [HSTY.out, if_neg k66, if_neg kD])
        clear k66 kD; go_wp2
        go_roundg (L.length - (i + 1))
        case measure => have := HKQ.out; omega
        case rel => exact ⟨i + 1, _, _, m, rfl, rfl, by go_num, by omega, ⟨rfl⟩, ⟨by rw [HFN.out]; exact HFC.out⟩, ⟨by rw [HFN.out]; exact HM.out⟩⟩
   ·have d6 : (x.1.k != 6) = true := by simp [hk6]
    have HF := zaa.mk (show findS L s (i + 1) = findS L s i by rw [HST.out]; unfold stepD; rw [if_neg (fun h => hk6 h.1)])
    clear hk6 hsx hux; go_wp2
    go_roundg (L.length - (i + 1))
    case measure => have := HKQ.out; omega
    case rel => exact ⟨i + 1, _, _, m, rfl, rfl, by go_num, by omega, ⟨rfl⟩, ⟨by rw [HF.out]; exact HFI.out⟩, ⟨by rw [HF.out]; exact HM.out⟩⟩
  ·have hie : i = L.length := by omega
   subst hie; go_wp2
   refine bodyPost_ret (results_tmp2 rfl _ _ _) rfl ?_
   exact ⟨_, _, m, _, rfl, HFI.out.lower HB1.out.size (Nat.le_refl _) (HB1.out.trans (HFI.out.low.mono HB1.out.size)), HM.out, rfl⟩
def countB (d : Dc) (p : Int) : Bool := d.counts.any fun c => decide (d.t ≤ p) && decide (c.f0 ≤ p) && decide (p < c.f1)
theorem count_calls (f t dk : Int) (ag : Bool) (nm : ByteArray) (ct : List S41) (dh p : Int) (AC : Option Addr) (cC : Nat) (W : World) (h : Kd.C k41 W AC ct.length ct) (hl : ct.length ≤ 9223372036854775807) :
  Calls Tryd.prog 22 #[.agg #[.int .i64 f, .int .i64 t, .int .u8 dk, .bool ag, .string nm, .slice AC ct.length cC, .int .i64 dh], .int .i64 p] W fun e W' => e = .returned (.bool (countB ⟨f, t, dk, ag, nm, ct, dh⟩ p)) ∧ Below W.heap.size W W' := by
 obtain ⟨X, hX⟩ : ∃ V, V = W.alloc (.cells #[.int .i64 f, .int .i64 t, .int .u8 dk, .bool ag, .string nm, .slice AC ct.length cC, .int .i64 dh] 75) := ⟨_, rfl⟩; have HBX := zaa.mk (show Below W.heap.size W X by rw [hX]; exact zad (Below.refl _ _) _)
 have HK := zaa.mk (show X.heap[W.heap.size]? = some (.cells #[.int .i64 f, .int .i64 t, .int .u8 dk, .bool ag, .string nm, .slice AC ct.length cC, .int .i64 dh] 75 (0, 0)) by rw [hX]; exact heap_alloc_new _ _)
 have HC := zaa.mk (Kd.zaT h HBX.out); have HL := zaa.mk hl; obtain ⟨r, hr⟩ : ∃ r, r = countB ⟨f, t, dk, ag, nm, ct, dh⟩ p := ⟨_, rfl⟩; rw [← hr]; have HR := zaa.mk (show ((ct.drop 0).any fun c => decide (t ≤ p) && decide (c.f0 ≤ p) && decide (p < c.f1)) = r by rw [hr, List.drop_zero]; rfl)
 have hud := Tryd.underlying75; have huc := Tryd.underlying72; have hus := Tryd.underlying41; clear h hl hr; go_enter Tryd.func22, Tryd.ntmps22
 go_upto_region 1 with (fail)
 change Code.wp Tryd.prog _ _ _ (W.alloc (.cells #[.int .i64 f, .int .i64 t, .int .u8 dk, .bool ag, .string nm, .slice AC ct.length cC, .int .i64 dh] 75))
 rw [← hX]; clear hX; have p1 := zaf HK.out 1; have p5 := zaf HK.out 5; simp at p1 p5; go_wp2
 go_loopg [5] ct.length (fun kq v5 wr => ∃ i : Nat, v5 = .int .i64 i ∧ i ≤ ct.length ∧ wr = X ∧ zaa (kq = ct.length - i) ∧ zaa (((ct.drop i).any fun c => decide (t ≤ p) && decide (c.f0 ≤ p) && decide (p < c.f1)) = r))
 case atStart => exact ⟨0, rfl, Nat.zero_le _, rfl, ⟨rfl⟩, HR⟩
 case round =>
  obtain ⟨i, rfl, hi, rfl, HQ, HF⟩ := hrel; have hl := HL.out; by_cases hlt : i < ct.length
  ·obtain ⟨c, hc⟩ : ∃ c, ct[i]? = some c := ⟨_, List.getElem?_eq_getElem hlt⟩
   obtain ⟨ad, eA, q0, q1⟩ := at_T41 HC.out (i : Int) (by omega) (by omega)
   subst eA; have hrd : rd_T41 ct (i : Int) = c := by
    unfold rd_T41
    rw [Int.toNat_natCast, List.getD_eq_getElem?_getD, hc]
    rfl
   rw [hrd, Int.toNat_natCast] at q0 q1; have HS := zaa.mk (show ((decide (t ≤ p) && decide (c.f0 ≤ p) && decide (p < c.f1)) || ((ct.drop (i + 1)).any fun c => decide (t ≤ p) && decide (c.f0 ≤ p) && decide (p < c.f1))) = r by
    have h := HF.out; obtain ⟨h1, e1⟩ := List.getElem?_eq_some_iff.1 hc; rw [List.drop_eq_getElem_cons h1, e1, List.any_cons] at h; exact h)
   clear hc hrd; obtain ⟨x0, x1⟩ := c; simp only at q0 q1 HS; by_cases hh : t ≤ p ∧ x0 ≤ p ∧ p < x1
   ·have HT := zaa.mk (show r = true by have h := HS.out; rw [decide_eq_true hh.1, decide_eq_true hh.2.1, decide_eq_true hh.2.2] at h; simpa using h.symm)
    obtain ⟨c1, c2, c3⟩ := hh; go_wp2
    go_ret
    exact ⟨by rw [HT.out]; rfl, HBX.out⟩
   ·have HN := zaa.mk (show ((ct.drop (i + 1)).any fun c => decide (t ≤ p) && decide (c.f0 ≤ p) && decide (p < c.f1)) = r by
     have h := HS.out; rw [show (decide (t ≤ p) && decide (x0 ≤ p) && decide (p < x1)) = false by
      by_cases c1 : t ≤ p
      ·by_cases c2 : x0 ≤ p
       ·have c3 : ¬ p < x1 := fun h => hh ⟨c1, c2, h⟩
        simp [c3]
       ·simp [c2]
      ·simp [c1], Bool.false_or] at h
     exact h)
    by_cases c1 : t ≤ p
    ·by_cases c2 : x0 ≤ p
     ·have c3 : ¬ p < x1 := fun h => hh ⟨c1, c2, h⟩
      clear hh; go_wp2
      go_roundg (ct.length - (i + 1))
      case measure => have := HQ.out; omega
      case rel => exact ⟨i + 1, by go_num, by omega, rfl, ⟨rfl⟩, HN⟩
     ·clear hh
      go_wp2
      go_roundg (ct.length - (i + 1))
      case measure => have := HQ.out; omega
      case rel => exact ⟨i + 1, by go_num, by omega, rfl, ⟨rfl⟩, HN⟩
    ·clear hh
     go_wp2
     go_roundg (ct.length - (i + 1))
     case measure => have := HQ.out; omega
     case rel => exact ⟨i + 1, by go_num, by omega, rfl, ⟨rfl⟩, HN⟩
  ·have hie : i = ct.length := by omega
   have HT := zaa.mk (show r = false by have h := HF.out; rw [hie, List.drop_length] at h; exact h.symm)
   clear hie; go_wp2
   go_ret
   exact ⟨by rw [HT.out]; rfl, HBX.out⟩
def mayB (s : ByteArray) (t : S29) : Bool := decide (t.f0 = 51) && decide (t.f2 = s.size) && okB t
theorem may20_ev (s : ByteArray) (k w wd : Int) (l : List S29) (hb : byteT ⟨k, w, wd, l⟩) : Ev (fun n => zbB.f n s k w wd l) (mayB s ⟨k, w, wd, l⟩) := by
 unfold mayB
 by_cases c1 : k = 51
 ·by_cases c2 : wd = s.size
  ·have := right_ref k w wd l hb
   refine Ev.congr (fun n => by unfold zbB.f; rw [if_pos c1, if_pos c2]) ?_
   simp only [c1, c2, decide_true, Bool.true_and]; rw [c1, c2] at this; exact Ev.bind this (Ev.now _)
  ·refine Ev.congr (f := fun _ => some false) (fun n => by unfold zbB.f; rw [if_pos c1, if_neg c2]) ?_
   simp only [c2, decide_false, Bool.and_false, Bool.false_and]; exact Ev.now _
 ·refine Ev.congr (f := fun _ => some false) (fun n => by unfold zbB.f; rw [if_neg c1]) ?_
  simp only [c1, decide_false, Bool.false_and]; exact Ev.now _
def outD (d : Dc) : S72 := ⟨⟨d.f, d.t⟩, d.kind, d.again⟩
def lastD (ds : List Dc) (nm : ByteArray) (p : Int) : Nat → Int
 | 0 => -1
 | k + 1 => match ds[k]? with
  | none => lastD ds nm p k
  | some d => if d.name = nm ∧ countB d p = true then (k : Int) else lastD ds nm p k
def outU (ds : List Dc) (u : Us) : S43 := ⟨⟨u.1, u.2.1⟩, lastD ds u.2.2 u.1 ds.length⟩
def of20 (s : ByteArray) (T : AT) : List S72 × List S43 × Int :=
 if mayB s T.erase then (((findS (seenT T 0 (-1) 0) s (seenT T 0 (-1) 0).length).1.map outD), ((findS (seenT T 0 (-1) 0) s (seenT T 0 (-1) 0).length).2.map (outU (findS (seenT T 0 (-1) 0) s (seenT T 0 (-1) 0).length).1)), 0) else ([], [], 150)
structure NmI (w3 w : World) (b8 : Nat) (v0 vb : Value) (ds : List S72) (bs : List S43) : Prop where
 low : Below w3.heap.size w3 w
 cell : w.heap[b8]? = some (.cells #[v0, vb] 26 (0, 0))
 rd : Kd.R k72 72 w w3.heap.size (fun q => w3.heap.size ≤ q) v0 ds
 rb : Kd.R k43 43 w w3.heap.size (fun q => w3.heap.size ≤ q) vb bs
theorem NmI.below {w3 w w' : World} {b8 : Nat} {v0 vb : Value} {ds : List S72} {bs : List S43} (h : NmI w3 w b8 v0 vb ds bs) (hb : Below w.heap.size w w') : NmI w3 w' b8 v0 vb ds bs :=
 ⟨zbN h.low hb h.low.size, zat h.cell hb, Kd.zbm h.rd hb, Kd.zbm h.rb hb⟩
theorem infoD72 : (Tryd.prog.info? 72).map (fun i => (i.zero, i.size, i.bytes)) = some (some (.agg #[.int .i64 0, .int .i64 0, .int .u8 0, .bool false]), 4, 24) := by kernel_rfl
theorem infoB43 : (Tryd.prog.info? 43).map (fun i => (i.zero, i.size, i.bytes)) = some (some (.agg #[.int .i64 0, .int .i64 0, .int .i64 0]), 3, 24) := by kernel_rfl
theorem typed_ne {X : World} {k b : Nat} {cs cs' : Array Value} {t t' : TypeId} (h : X.heap[k]? = some (Obj.cells cs t (0, 0))) (h' : X.heap[b]? = some (Obj.cells cs' t' (0, 0))) (hn : t ≠ t') : k ≠ b := fun e => by
 rw [e, h'] at h; injection h with h
 injection h with _ h2 _
 exact hn h2.symm
theorem names_d {w3 X Y : World} {b8 n c : Nat} {A : Option Addr} {vb : Value} {ds : List S72} {bs : List S43} (h : NmI w3 X b8 (.slice A n c) vb ds bs) (hb8 : w3.heap.size ≤ b8) (hl : ds.length ≤ 1000000) (p : S72) (hY : Y = X.alloc (.cells #[.int .i64 p.f0.f0, .int .i64 p.f0.f1, .int .u8 p.f1, .bool p.f2] 72)) :
  ∃ (g cap : Nat) (w5 : World), (Builtin.append_ #[23, 23] 23 #[.slice A n c, .slice (some ⟨X.heap.size, 0, none⟩) 1 1]).run Tryd.prog Y = .ok (.slice (some ⟨g, 0, none⟩) (n + 1) cap) w5 ∧ Below w3.heap.size w3 w5 ∧ w5.heap[b8]? = some (.cells #[.slice A n c, vb] 26 (0, 0)) ∧ NmI w3 (w5.setCell ⟨b8, 0, none⟩ (.slice (some ⟨g, 0, none⟩) (n + 1) cap)) b8 (.slice (some ⟨g, 0, none⟩) (n + 1) cap) vb (ds ++ [p]) bs := by
 have hsz := h.low.size; have hbY : Below X.heap.size X Y := by rw [hY]; exact zad (Below.refl _ _) _
 obtain ⟨g, cap, w5, hrun, hg5, hgo5, hbg5, hnl, hR5⟩ := zbR k72 72 23 h.rd hsz (fun q hq => by omega) Tryd.underlying23 infoD72 rfl (by decide) (by decide) (by omega) hbY p [.int .i64 p.f0.f0, .int .i64 p.f0.f1, .int .u8 p.f1, .bool p.f2] (by rw [hY]; exact heap_alloc_new _ _) (k72_mkM _ _ _ _) rfl (by intro v hv; simp at hv; rcases hv with rfl | rfl | rfl | rfl <;> rfl)
 have hc5 : w5.heap[b8]? = some (.cells #[.slice A n c, vb] 26 (0, 0)) := (hg5.block _ (zaO h.cell) (fun e => by
  obtain ⟨cs2, h2⟩ := Kd.zbO h.rd b8 e.symm; exact typed_ne h2 h.cell (by decide) rfl)).trans h.cell
 have hl5 : Below w3.heap.size w3 w5 := h.low.grown hg5 hsz (fun k hk => h.rd.1 k hk)
 refine ⟨g, cap, w5, hrun, hl5, hc5, hl5.setCell hb8 _, by simpa using zbt hc5 0 (.slice (some ⟨g, 0, none⟩) (n + 1) cap), Kd.R_set hR5 hc5 (by decide) 0 _, Kd.R_set (Kd.R_over' h.rb (Kd.zbO h.rd) (by decide) hg5) hc5 (by decide) 0 _⟩
theorem names_b {w3 X Y : World} {b8 n c : Nat} {A : Option Addr} {v0 : Value} {ds : List S72} {bs : List S43} (h : NmI w3 X b8 v0 (.slice A n c) ds bs) (hb8 : w3.heap.size ≤ b8) (hl : bs.length ≤ 1000000) (p : S43) (hY : Y = X.alloc (.cells #[.int .i64 p.f0.f0, .int .i64 p.f0.f1, .int .i64 p.f1] 43)) :
  ∃ (g cap : Nat) (w5 : World), (Builtin.append_ #[24, 24] 24 #[.slice A n c, .slice (some ⟨X.heap.size, 0, none⟩) 1 1]).run Tryd.prog Y = .ok (.slice (some ⟨g, 0, none⟩) (n + 1) cap) w5 ∧ Below w3.heap.size w3 w5 ∧ w5.heap[b8]? = some (.cells #[v0, .slice A n c] 26 (0, 0)) ∧ NmI w3 (w5.setCell ⟨b8, 1, none⟩ (.slice (some ⟨g, 0, none⟩) (n + 1) cap)) b8 v0 (.slice (some ⟨g, 0, none⟩) (n + 1) cap) ds (bs ++ [p]) := by
 have hsz := h.low.size; have hbY : Below X.heap.size X Y := by rw [hY]; exact zad (Below.refl _ _) _
 obtain ⟨g, cap, w5, hrun, hg5, hgo5, hbg5, hnl, hR5⟩ := zbR k43 43 24 h.rb hsz (fun q hq => by omega) Tryd.underlying24 infoB43 rfl (by decide) (by decide) (by omega) hbY p [.int .i64 p.f0.f0, .int .i64 p.f0.f1, .int .i64 p.f1] (by rw [hY]; exact heap_alloc_new _ _) (k43_mkM _ _ _ _) rfl (by intro v hv; simp at hv; rcases hv with rfl | rfl | rfl <;> rfl)
 have hc5 : w5.heap[b8]? = some (.cells #[v0, .slice A n c] 26 (0, 0)) := (hg5.block _ (zaO h.cell) (fun e => by
  obtain ⟨cs2, h2⟩ := Kd.zbO h.rb b8 e.symm; exact typed_ne h2 h.cell (by decide) rfl)).trans h.cell
 have hl5 : Below w3.heap.size w3 w5 := h.low.grown hg5 hsz (fun k hk => h.rb.1 k hk)
 refine ⟨g, cap, w5, hrun, hl5, hc5, hl5.setCell hb8 _, by simpa using zbt hc5 1 (.slice (some ⟨g, 0, none⟩) (n + 1) cap), Kd.R_set (Kd.R_over' h.rd (Kd.zbO h.rb) (by decide) hg5) hc5 (by decide) 1 _, Kd.R_set hR5 hc5 (by decide) 1 _⟩
theorem decl_all {W : World} {A : Option Addr} {L : List Dm} (h : Kd.C (Kd.raw 7) W A (L.map rawD).length (L.map rawD)) (i : Nat) (x : Dm) (hx : L[i]? = some x) : ∃ ad, A = some ad ∧ W.cell? (ad.add (i * 7)) = some (.int .i64 x.1.f) ∧ ∀ j u, 0 < j → (rawD x)[j]? = some u → W.cell? ⟨(ad.add (i * 7)).block, (ad.add (i * 7)).off + j, none⟩ = some u := by
 have hi : i < L.length := (List.getElem?_eq_some_iff.1 hx).1; obtain ⟨ad, c, e, _, hK, hc0⟩ := Kd.C_get h [] (i : Int) (by omega) (by simpa using hi)
 have hc : ∀ j u, c[j]? = some u → W.cell? (ad.add (i * 7 + j)) = some u := fun j u hu => by have := hc0 j u hu; rw [Int.toNat_natCast] at this; exact this
 have hc' : c = rawD x := by
  have h1 := hK.1; rw [h1, Int.toNat_natCast, List.getD_eq_getElem?_getD, List.getElem?_map, hx]
  rfl
 subst hc'; exact ⟨ad, e, by simpa using hc 0 _ rfl, fun j u hj hu => by rw [← zba _ _ j hj]; exact hc j u hu⟩
theorem use_at {W : World} {A : Option Addr} {L : List Us} (h : Kd.C (Kd.raw 3) W A (L.map rawU).length (L.map rawU)) (i : Nat) (x : Us) (hx : L[i]? = some x) : ∃ ad, A = some ad ∧ W.cell? (ad.add (i * 3)) = some (.int .i64 x.1) ∧ W.cell? ⟨(ad.add (i * 3)).block, (ad.add (i * 3)).off + 1, none⟩ = some (.int .i64 x.2.1) ∧ W.cell? ⟨(ad.add (i * 3)).block, (ad.add (i * 3)).off + 2, none⟩ = some (.string x.2.2) := by
 have hi : i < L.length := (List.getElem?_eq_some_iff.1 hx).1; obtain ⟨ad, c, e, _, hK, hc0⟩ := Kd.C_get h [] (i : Int) (by omega) (by simpa using hi)
 have hc : ∀ j u, c[j]? = some u → W.cell? (ad.add (i * 3 + j)) = some u := fun j u hu => by have := hc0 j u hu; rw [Int.toNat_natCast] at this; exact this
 have hc' : c = rawU x := by
  have h1 := hK.1; rw [h1, Int.toNat_natCast, List.getD_eq_getElem?_getD, List.getElem?_map, hx]
  rfl
 subst hc'; exact ⟨ad, e, by simpa using hc 0 _ rfl, by rw [← zba _ _ 1 (by omega)]; exact hc 1 _ rfl, by rw [← zba _ _ 2 (by omega)]; exact hc 2 _ rfl⟩
theorem of20_calls (s : ByteArray) (T : AT) (W : World) (hT : AtT W T) (hby : byteT T.erase) (hn : nT T ≤ 1000000) (hs : s.size ≤ 1099511627776) :
  Calls Tryd.prog 9 #[.string s, T.val] W fun e W' => ∃ vd vb, e = .returned (.tuple #[.agg #[vd, vb], .int .i64 (of20 s T).2.2]) ∧ Below W.heap.size W W' ∧ Kd.R k72 72 W' W.heap.size (fun q => W.heap.size ≤ q) vd (of20 s T).1 ∧ Kd.R k43 43 W' W.heap.size (fun q => W.heap.size ≤ q) vb (of20 s T).2.1 := by
 obtain ⟨X1, hX1⟩ : ∃ V, V = W.alloc (.cells #[.int .u8 T.k, .int .u8 T.w, .int .i64 T.wd, .slice T.A T.kids.length T.c] 29) := ⟨_, rfl⟩; obtain ⟨X, hX⟩ : ∃ V, V = X1.alloc (.cells #[.slice none 0 0, .slice none 0 0] 26) := ⟨_, rfl⟩; have hs1 : X1.heap.size = W.heap.size + 1 := by rw [hX1]; simp
 have b1 : Below W.heap.size W X1 := by rw [hX1]; exact zad (Below.refl _ _) _
 have b2 : Below X1.heap.size X1 X := by rw [hX]; exact zad (Below.refl _ _) _
 have HBX := zaa.mk (zai b1 b2); have HK1 := zaa.mk (show X.heap[W.heap.size]? = some (.cells #[.int .u8 T.k, .int .u8 T.w, .int .i64 T.wd, .slice T.A T.kids.length T.c] 29 (0, 0)) from zat (by rw [hX1]; exact heap_alloc_new _ _) b2)
 have HK4 := zaa.mk (show X.heap[W.heap.size + 1]? = some (.cells #[.slice none 0 0, .slice none 0 0] 26 (0, 0)) by rw [hX, ← hs1]; exact heap_alloc_new _ _)
 have HT := zaa.mk hT; have HNT := zaa.mk hn; have HSS := zaa.mk hs; have hera : T.erase = ⟨T.k, T.w, T.wd, zbL T.kids⟩ := by cases T; rfl
 obtain ⟨km, hkm⟩ := may20_ev s T.k T.w T.wd (zbL T.kids) (by rw [← hera]; exact hby)
 obtain ⟨bm, hbm⟩ : ∃ bm, bm = mayB s ⟨T.k, T.w, T.wd, zbL T.kids⟩ := ⟨_, rfl⟩; have hmay := hkm km (Nat.le_refl _); rw [← hbm] at hmay; have hCk := C_of_AT _ T (Nat.lt_succ_self _) W hT; have hkc : T.kids.length ≤ T.c := by cases T; simp only [AtT] at hT; exact hT.1
 have hel := zbp T.kids; have hcall := zbB.calls km s T.k T.w T.wd T.A T.c (zbL T.kids) bm X (by rw [hel]; exact Kd.zaT hCk HBX.out) (by rw [hel]; exact hkc) hmay
 rw [hel] at hcall; have HBM := zaa.mk (show mayB s T.erase = bm by rw [hbm, hera])
 have HG := zaa.mk (show bm = true → goodT T.erase ∧ T.k = 51 ∧ T.wd = s.size from fun h => by
  have h1 := HBM.out; rw [h] at h1; unfold mayB at h1
  simp only [Bool.and_eq_true, decide_eq_true_eq] at h1; obtain ⟨⟨ha, hb⟩, hc⟩ := h1; rw [hera] at ha hb; exact ⟨ok_good _ hby hc, ha, hb⟩)
 have hun := Tryd.underlying29; have hum := Tryd.underlying26; have hud := Tryd.underlying75; have huu := Tryd.underlying77; have huc := Tryd.underlying72; have hup := Tryd.underlying41; have hub := Tryd.underlying43; simp only [AT.val]; clear hT hby hn hs hera hkm hbm hmay hCk hkc hel hs1 b1 b2; go_enter Tryd.func9, Tryd.ntmps9
 go_upto_region 1 with (fail)
 change Code.wp Tryd.prog _ _ _ ((W.alloc (.cells #[.int .u8 T.k, .int .u8 T.w, .int .i64 T.wd, .slice T.A T.kids.length T.c] 29)).alloc (.cells #[.slice none 0 0, .slice none 0 0] 26))
 rw [← hX1, ← hX]; clear hX hX1; have p0 := zaf HK1.out 0; have p1 := zaf HK1.out 1; have p2 := zaf HK1.out 2; have p3 := zaf HK1.out 3; simp at p0 p1 p2 p3; cases bm with
 | false =>
  have HOF := zaa.mk (show of20 s T = ([], [], 150) by unfold of20; rw [HBM.out]; rfl)
  go_upto_region 2 with (go_at_call 20; refine hcall.mono ?_; rintro e w2 ⟨rfl, hb2⟩; have HB2 := zaa.mk hb2; have hk4 := zat HK4.out hb2; have HC4 := zaa.mk hk4; have r0 := zaf hk4 0; have r1 := zaf hk4 1; have g0 := zab hk4 0; have g1 := zab hk4 1; have lb := zaO hk4; simp at r0 r1; clear hb2 hcall p0 p1 p2 p3 hk4)
  go_wp2
  have hz := zbt (zbt HC4.out 0 (.slice none 0 0)) 1 (.slice none 0 0); simp at hz; refine bodyPost_ret (zb0 rfl _ _ (W.heap.size + 1) 26 _ (0, 0) _ rfl hz Tryd.underlying26 rfl (by kernel_rfl)) rfl ?_
  have hb : W.heap.size ≤ W.heap.size + 1 := Nat.le_succ _; exact ⟨_, _, by rw [HOF.out]; rfl, ((zai HBX.out HB2.out).setCell hb _).setCell hb _, by rw [HOF.out]; exact Kd.R_nil _ _ _ _ _, by rw [HOF.out]; exact Kd.R_nil _ _ _ _ _⟩
 | true =>
  obtain ⟨hg, hk51, hwd⟩ := HG.out rfl; obtain ⟨L, hL⟩ : ∃ L, L = seenT T 0 (-1) 0 := ⟨_, rfl⟩; obtain ⟨dl, hdl⟩ : ∃ dl, dl = (findS L s L.length).1 := ⟨_, rfl⟩; obtain ⟨ul, hul⟩ : ∃ ul, ul = (findS L s L.length).2 := ⟨_, rfl⟩; have HOF := zaa.mk (show of20 s T = (dl.map outD, ul.map (outU dl), 0) by unfold of20; rw [HBM.out, if_pos rfl, ← hL, ← hdl, ← hul])
  have h1L := findS_len L s L.length (Nat.le_refl _); rw [← hdl, ← hul] at h1L; have h2L : L.length ≤ 1000000 := by rw [hL, seenT_len]; exact HNT.out
  have HLN := zaa.mk (show dl.length ≤ 1000000 ∧ ul.length ≤ 1000000 by omega)
  clear h1L h2L; have HFIND := zaa.mk (fun (w : World) (hw : Below W.heap.size W w) => find_calls s T w (AtT.below hw T HT.out) hg hk51 hwd HNT.out HSS.out)
  rw [← hL, ← hdl, ← hul] at HFIND; simp only [AT.val] at HFIND; clear hg hk51 hwd hL hdl hul; go_upto_region 3 with (go_at_call 20; refine hcall.mono ?_; rintro e w2 ⟨rfl, hb2⟩; have HB2 := zaa.mk hb2; have HC4 := zaa.mk (zat HK4.out hb2); clear hcall p0 p1 p2 p3; have hk1 := zat HK1.out hb2; have p0 := zaf hk1 0; have p1 := zaf hk1 1; have p2 := zaf hk1 2; have p3 := zaf hk1 3; simp at p0 p1 p2 p3; clear hk1 hb2)
  have HBW2 := zaa.mk (zai HBX.out HB2.out); go_upto_region 4 with (go_at_call 21; refine (HFIND.out w2 HBW2.out).mono ?_; rintro e w3 ⟨vd, vu, m, us, rfl, hfi, hm, rfl⟩; have HF3 := zaa.mk hfi; have HM := zaa.mk hm; clear hfi hm p0 p1 p2 p3)
  obtain ⟨X8, hX8⟩ : ∃ V, V = w3.alloc (.cells #[.slice none 0 0, .slice none 0 0] 26) := ⟨_, rfl⟩; have HB8 := zaa.mk (show Below w3.heap.size w3 X8 by rw [hX8]; exact zad (Below.refl _ _) _)
  have HN8 := zaa.mk (show NmI w3 X8 w3.heap.size (.slice none 0 0) (.slice none 0 0) [] [] from ⟨HB8.out, by rw [hX8]; exact heap_alloc_new _ _, Kd.R_nil _ _ _ _ _, Kd.R_nil _ _ _ _ _⟩)
  have HC43 := zaa.mk (show w3.heap[W.heap.size + 1]? = some (.cells #[.slice none 0 0, .slice none 0 0] 26 (0, 0)) from zat HC4.out HF3.out.low)
  go_upto_region 5 with (fail)
  change Code.wp Tryd.prog _ _ _ (w3.alloc (.cells #[.slice none 0 0, .slice none 0 0] 26))
  rw [← hX8]; clear hX8; obtain ⟨b8, hb8⟩ : ∃ b8, b8 = w3.heap.size := ⟨_, rfl⟩; rw [← hb8] at HN8; have HB8L := zaa.mk (show w3.heap.size ≤ b8 by omega)
  have HB4N := zaa.mk (show W.heap.size + 1 < b8 by have := zaO HC43.out; omega)
  rw [← hb8]; clear hb8 HB8; obtain ⟨Ad, cd, ed⟩ := Kd.zbo HF3.out.rd; rw [List.length_map] at ed; subst ed; obtain ⟨Au, cu, eu⟩ := Kd.zbo HF3.out.ru; rw [List.length_map] at eu; subst eu; have HML := zaa.mk (show m.length = dl.length by rw [← HM.out, List.length_map])
  have HRD := zaa.mk (fun (w : World) (hw : Below w3.heap.size w3 w) => (Kd.za0 (HF3.out.below hw).rd).2.2)
  have HRU := zaa.mk (fun (w : World) (hw : Below w3.heap.size w3 w) => (Kd.za0 (HF3.out.below hw).ru).2.2)
  have hml : m.length ≤ 1000000 := by have := HML.out; have := HLN.out.1; omega
  have hul : us.length ≤ 1000000 := HLN.out.2; go_wp2
  go_loopg [9] m.length (fun kq v9 w' => ∃ (i : Nat), v9 = .int .i64 i ∧ i ≤ m.length ∧ zaa (kq = m.length - i) ∧ ∃ v0, zaa (NmI w3 w' b8 v0 (.slice none 0 0) (((m.take i).map (·.1)).map outD) []))
  case atStart => exact ⟨0, rfl, Nat.zero_le _, ⟨rfl⟩, _, ⟨by simpa using HN8.out⟩⟩
  case round =>
   obtain ⟨i, rfl, hi, HKQ, v0, HNI⟩ := hrel; by_cases hlt : i < m.length
   ·obtain ⟨x, hx⟩ : ∃ x, m[i]? = some x := ⟨_, List.getElem?_eq_getElem hlt⟩
    obtain ⟨adm, hA, _, _⟩ := decl_all (HRD.out wr HNI.out.low) i x hx; subst hA; obtain ⟨A0, c0, e0⟩ := Kd.zbo HNI.out.rd; obtain ⟨n0, hn0⟩ : ∃ n0, n0 = (((m.take i).map (·.1)).map outD).length := ⟨_, rfl⟩; rw [← hn0] at e0; subst e0; have HXI := zaa.mk hx; have HNX := zaa.mk (show ((m.take (i + 1)).map (·.1)).map outD = ((m.take i).map (·.1)).map outD ++ [outD x.1] by rw [List.take_add_one, hx]; simp)
    have HN0 := zaa.mk (show (((m.take i).map (·.1)).map outD).length ≤ 1000000 by simp only [List.length_map, List.length_take]; omega)
    clear hx hn0; obtain ⟨⟨f, e, dk, ag, nm, ct, dh⟩, vC⟩ := x; go_upto_region 8 with (fail)
    obtain ⟨X2, hX2⟩ : ∃ X2 : World, X2 = wr.drew := ⟨_, rfl⟩; have HB2' := zaa.mk (show Below wr.heap.size wr X2 by rw [hX2]; exact (Below.refl _ _).drew)
    have HN2 := zaa.mk (HNI.out.below HB2'.out); have HSX := zaa.mk (fun (w : World) (hw : Below w3.heap.size w3 w) (hc : w.heap[b8]? = some (.cells #[.slice A0 n0 c0, .slice none 0 0] 26 (0, 0))) => (show (w.cell? ⟨b8, 0, none⟩ = some (.slice A0 n0 c0) ∧ b8 < w.heap.size) ∧ w.cell? (adm.add (i * 7)) = some (.int .i64 f) ∧ w.cell? ⟨(adm.add (i * 7)).block, (adm.add (i * 7)).off + 1, none⟩ = some (.int .i64 e) ∧ w.cell? ⟨(adm.add (i * 7)).block, (adm.add (i * 7)).off + 2, none⟩ = some (.int .u8 dk) ∧ w.cell? ⟨(adm.add (i * 7)).block, (adm.add (i * 7)).off + 3, none⟩ = some (.bool ag) from by
     obtain ⟨ad2, e2, h0, hq⟩ := decl_all (HRD.out w hw) i _ HXI.out; obtain rfl := Option.some.inj e2; have h4 := zaf hc 0; simp at h4; exact ⟨⟨h4, zaO hc⟩, h0, hq 1 _ (by decide) rfl, hq 2 _ (by decide) rfl, hq 3 _ (by decide) rfl⟩))
    obtain ⟨g, cap, w5, hrun, hl5, hc5, hn5⟩ := names_d HN2.out HB8L.out HN0.out (outD ⟨f, e, dk, ag, nm, ct, dh⟩) rfl; have HL5 := zaa.mk hl5; have HC5 := zaa.mk hc5; have HN5 := zaa.mk hn5; have HS0 := zaa.mk (HSX.out X2 HN2.out.low HN2.out.cell); have HS7 := zaa.mk (HSX.out (X2.alloc (.cells #[.int .i64 f, .int .i64 e, .int .u8 dk, .bool ag] 72)) (HN2.out.below (zad (Below.refl _ _) _)).low (HN2.out.below (zad (Below.refl _ _) _)).cell); have HS8 := zaa.mk (HSX.out w5 hl5 hc5); clear hl5 hc5 hn5; refine wp_region_noPanic (zbn [0, 1, 2, 3, 4, 5, 6, 7, 8, 9] (fun W' => (W'.cell? ⟨b8, 0, none⟩ = some (.slice A0 n0 c0) ∧ b8 < W'.heap.size) ∧ W'.cell? (adm.add (i * 7)) = some (.int .i64 f) ∧ W'.cell? ⟨(adm.add (i * 7)).block, (adm.add (i * 7)).off + 1, none⟩ = some (.int .i64 e) ∧ W'.cell? ⟨(adm.add (i * 7)).block, (adm.add (i * 7)).off + 2, none⟩ = some (.int .u8 dk) ∧ W'.cell? ⟨(adm.add (i * 7)).block, (adm.add (i * 7)).off + 3, none⟩ = some (.bool ag)) mixD ?_)
    rw [← hX2]; clear hX2; refine zah 0 rfl HS0.out (fun _ h => by obtain ⟨⟨s0, s1⟩, s2, s3, s4, s5⟩ := h; go_simp; try rfl) ?_
    simp only [Act.put, zaj]; refine zah 1 rfl HS0.out (fun _ h => by obtain ⟨⟨s0, s1⟩, s2, s3, s4, s5⟩ := h; go_simp; try rfl) ?_
    simp only [Act.put, zaj]; refine zah 2 rfl HS0.out (fun _ h => by obtain ⟨⟨s0, s1⟩, s2, s3, s4, s5⟩ := h; go_simp; try rfl) ?_
    simp only [Act.put, zaj]; refine zah 3 rfl HS0.out (fun _ h => by obtain ⟨⟨s0, s1⟩, s2, s3, s4, s5⟩ := h; go_simp; try rfl) ?_
    simp only [Act.put, zaj]; refine zah 4 rfl HS0.out (fun _ h => by obtain ⟨⟨s0, s1⟩, s2, s3, s4, s5⟩ := h; go_simp; try rfl) ?_
    simp only [Act.put, zaj]; refine zah 5 rfl HS0.out (fun _ h => by obtain ⟨⟨s0, s1⟩, s2, s3, s4, s5⟩ := h; go_simp; try rfl) ?_
    simp only [Act.put, zaj]; refine zah 6 rfl HS0.out (fun _ h => by obtain ⟨⟨s0, s1⟩, s2, s3, s4, s5⟩ := h; go_simp; try rfl) ?_
    simp only [Act.put, zaj]; refine zaN (i := 7) rfl (by kernel_rfl) (fun K hK => ?_)
    go_simp
    refine hK.out _ _ (fun _ => HS7.out) (fun _ => ?_)
    clear hK K; try simp only [Act.put, zaj]
    refine zaN (i := 8) rfl (by kernel_rfl) (fun K hK => ?_)
    refine wpO_app (by rfl) _ _ _ rfl hrun ?_
    clear hrun; refine hK.out _ _ (fun _ => HS8.out) (fun _ => ?_)
    clear hK K; try simp only [Act.put, zaj]
    refine zah 9 rfl HS8.out (fun _ h => by obtain ⟨⟨s0, s1⟩, s2, s3, s4, s5⟩ := h; go_simp; try rfl) ?_
    simp only [Act.put, zaj]; have r0 := zaf HC5.out 0; have g0 := zab HC5.out 0; have lb := zaO HC5.out; simp at r0; refine zaN (i := 10) rfl (by kernel_rfl) (fun K hK => ?_)
    go_simp
    refine hK.out _ _ (fun h => Bool.noConfusion (show false = true from h)) (fun _ => ?_)
    clear hK K; try simp only [Act.put, zaj]
    refine zbb (by kernel_rfl) (NoPanic.normal ?_) _
    clear r0 g0 lb; go_wp2_with fail
    go_roundg (m.length - (i + 1))
    case measure => have := HKQ.out; omega
    case rel => exact ⟨i + 1, by go_num, by omega, ⟨rfl⟩, _, ⟨by rw [HNX.out]; exact HN5.out⟩⟩
   have hie : i = m.length := by omega
   subst hie; have HNA := zaa.mk (show NmI w3 wr b8 v0 (.slice none 0 0) (dl.map outD) [] by have h := HNI.out; rw [List.take_length, HM.out] at h; exact h)
   obtain ⟨wo, rfl⟩ : ∃ w_ : World, w_ = wr := ⟨_, rfl⟩; clear hi hlt HNI; go_wp2
   go_loopg [10] us.length (fun kq v10 w' => ∃ (i : Nat), v10 = .int .i64 i ∧ i ≤ us.length ∧ zaa (kq = us.length - i) ∧ ∃ vb, zaa (NmI w3 w' b8 v0 vb (dl.map outD) ((us.take i).map (outU dl))))
   case atStart => exact ⟨0, rfl, Nat.zero_le _, ⟨rfl⟩, _, ⟨by simpa using HNA.out⟩⟩
   case round =>
    obtain ⟨i, rfl, hi, HKQ2, vb, HNI⟩ := hrel; by_cases hlt : i < us.length
    ·obtain ⟨x, hx⟩ : ∃ x, us[i]? = some x := ⟨_, List.getElem?_eq_getElem hlt⟩
     obtain ⟨adu, hA, _, _, _⟩ := use_at (HRU.out wr HNI.out.low) i x hx; subst hA; have HUI := zaa.mk hx; have HNX := zaa.mk (show (us.take (i + 1)).map (outU dl) = (us.take i).map (outU dl) ++ [outU dl x] by rw [List.take_add_one, hx]; simp)
     have HN0 := zaa.mk (show ((us.take i).map (outU dl)).length ≤ 1000000 by simp only [List.length_map, List.length_take]; omega)
     have HDLM := zaa.mk (show m.length = dl.length from HML.out)
     clear hx; obtain ⟨uf, ue, un⟩ := x; obtain ⟨wu, rfl⟩ : ∃ w_ : World, w_ = wr := ⟨_, rfl⟩; go_wp2
     go_loopg [11, 12] m.length (fun kq v11 v12 w' => ∃ (k : Nat), v11 = .int .i64 (lastD dl un uf k) ∧ v12 = .int .i64 k ∧ k ≤ m.length ∧ zaa (kq = m.length - k) ∧ zaa (Below wu.heap.size wu w'))
     case atStart => exact ⟨0, rfl, rfl, Nat.zero_le _, ⟨rfl⟩, ⟨Below.refl _ _⟩⟩
     case round =>
      obtain ⟨k, rfl, rfl, hk, HKK, HBK⟩ := hrel; have HNK := zaa.mk (HNI.out.below HBK.out); by_cases hkl : k < m.length
      ·obtain ⟨c, hc⟩ : ∃ c, m[k]? = some c := ⟨_, List.getElem?_eq_getElem hkl⟩
       have hdc : dl[k]? = some c.1 := by rw [← HM.out, List.getElem?_map, hc]; rfl
       have HLD := zaa.mk (show lastD dl un uf (k + 1) = if c.1.name = un ∧ countB c.1 uf = true then (k : Int) else lastD dl un uf k by simp only [lastD, hdc])
       obtain ⟨adm, hA, q0, qq⟩ := decl_all (HRD.out wr HNK.out.low) k c hc; subst hA; obtain ⟨AC, cC, eC⟩ := Kd.zbo (HF3.out.rc c (List.mem_of_getElem? hc)); obtain ⟨adu2, hA2, u0, u1, u2⟩ := use_at (HRU.out wr HNK.out.low) i _ HUI.out; obtain rfl := Option.some.inj hA2; have HCI := zaa.mk hc; have HRC := zaa.mk (HF3.out.rc c (List.mem_of_getElem? hc)); clear hc hdc hA2; obtain ⟨⟨f, e, dk, ag, nm, ct, dh⟩, vC⟩ := c; simp only at eC; subst eC; have q4 := qq 4 _ (by decide) rfl
       simp only at q0 q4 u0 u1 u2; obtain ⟨ld, hld⟩ : ∃ ld, ld = lastD dl un uf k := ⟨_, rfl⟩; have HLK := zaa.mk hld; rw [← hld] at HLD; rw [← hld]; clear hld qq; by_cases n1 : nm = un
       ·have e1 : (nm.toList == un.toList) = true := by rw [n1]; simp
        obtain ⟨rb, hrb⟩ : ∃ rb, rb = countB ⟨f, e, dk, ag, nm, ct, dh⟩ uf := ⟨_, rfl⟩; have HLN2 := zaa.mk (show lastD dl un uf (k + 1) = if rb = true then (k : Int) else ld by rw [HLD.out, hrb]; simp only [n1, true_and])
        have hctl : ct.length ≤ 9223372036854775807 := (Kd.za0 HRC.out).2.2.2.1; have HCT := zaa.mk hctl; have HCF := zaa.mk hrb; clear hrb hctl n1 q0 q4 u0 u1 u2; go_upto_region 16 with (fail)
        obtain ⟨X2, hX2⟩ : ∃ X2 : World, X2 = wr.drew := ⟨_, rfl⟩; have HB2' := zaa.mk (show Below wr.heap.size wr X2 by rw [hX2]; exact (Below.refl _ _).drew)
        have HN2 := zaa.mk (HNK.out.below HB2'.out); have HSX := zaa.mk (fun (w : World) (hw : Below w3.heap.size w3 w) => (show (w.cell? (adm.add (k * 7)) = some (.int .i64 f) ∧ w.cell? ⟨(adm.add (k * 7)).block, (adm.add (k * 7)).off + 1, none⟩ = some (.int .i64 e) ∧ w.cell? ⟨(adm.add (k * 7)).block, (adm.add (k * 7)).off + 2, none⟩ = some (.int .u8 dk) ∧ w.cell? ⟨(adm.add (k * 7)).block, (adm.add (k * 7)).off + 3, none⟩ = some (.bool ag) ∧ w.cell? ⟨(adm.add (k * 7)).block, (adm.add (k * 7)).off + 4, none⟩ = some (.string nm) ∧ w.cell? ⟨(adm.add (k * 7)).block, (adm.add (k * 7)).off + 5, none⟩ = some (.slice AC ct.length cC) ∧ w.cell? ⟨(adm.add (k * 7)).block, (adm.add (k * 7)).off + 6, none⟩ = some (.int .i64 dh)) ∧ w.cell? (adu.add (i * 3)) = some (.int .i64 uf) ∧ w.cell? ⟨(adu.add (i * 3)).block, (adu.add (i * 3)).off + 2, none⟩ = some (.string un) from by
         obtain ⟨ad2, e2, h0, hq⟩ := decl_all (HRD.out w hw) k _ HCI.out; obtain rfl := Option.some.inj e2; obtain ⟨ad3, e3, k0, _, k2⟩ := use_at (HRU.out w hw) i _ HUI.out; obtain rfl := Option.some.inj e3; exact ⟨⟨h0, hq 1 _ (by decide) rfl, hq 2 _ (by decide) rfl, hq 3 _ (by decide) rfl, hq 4 _ (by decide) rfl, hq 5 _ (by decide) rfl, hq 6 _ (by decide) rfl⟩, k0, k2⟩))
        have HS0 := zaa.mk (HSX.out X2 HN2.out.low); refine wp_region_noPanic (zbn [0, 1, 2, 3, 4, 5, 6, 7, 8, 9, 10, 11, 12, 13, 14, 15, 16, 17, 18, 19, 20, 21, 22, 23] (fun w => (w.cell? (adm.add (k * 7)) = some (.int .i64 f) ∧ w.cell? ⟨(adm.add (k * 7)).block, (adm.add (k * 7)).off + 1, none⟩ = some (.int .i64 e) ∧ w.cell? ⟨(adm.add (k * 7)).block, (adm.add (k * 7)).off + 2, none⟩ = some (.int .u8 dk) ∧ w.cell? ⟨(adm.add (k * 7)).block, (adm.add (k * 7)).off + 3, none⟩ = some (.bool ag) ∧ w.cell? ⟨(adm.add (k * 7)).block, (adm.add (k * 7)).off + 4, none⟩ = some (.string nm) ∧ w.cell? ⟨(adm.add (k * 7)).block, (adm.add (k * 7)).off + 5, none⟩ = some (.slice AC ct.length cC) ∧ w.cell? ⟨(adm.add (k * 7)).block, (adm.add (k * 7)).off + 6, none⟩ = some (.int .i64 dh)) ∧ w.cell? (adu.add (i * 3)) = some (.int .i64 uf) ∧ w.cell? ⟨(adu.add (i * 3)).block, (adu.add (i * 3)).off + 2, none⟩ = some (.string un)) mixD ?_)
        rw [← hX2]; clear hX2; refine zah 0 rfl HS0.out (fun _ h => by obtain ⟨⟨s0, s1, s2, s3, s4, s5, s6⟩, s7, s8⟩ := h; go_simp; try rfl) ?_
        simp only [Act.put, zaj]; refine zah 1 rfl HS0.out (fun _ h => by obtain ⟨⟨s0, s1, s2, s3, s4, s5, s6⟩, s7, s8⟩ := h; go_simp; try rfl) ?_
        simp only [Act.put, zaj]; refine zah 2 rfl HS0.out (fun _ h => by obtain ⟨⟨s0, s1, s2, s3, s4, s5, s6⟩, s7, s8⟩ := h; go_simp; try rfl) ?_
        simp only [Act.put, zaj]; refine zah 3 rfl HS0.out (fun _ h => by obtain ⟨⟨s0, s1, s2, s3, s4, s5, s6⟩, s7, s8⟩ := h; go_simp; try rfl) ?_
        simp only [Act.put, zaj]; refine zah 4 rfl HS0.out (fun _ h => by obtain ⟨⟨s0, s1, s2, s3, s4, s5, s6⟩, s7, s8⟩ := h; go_simp; try rfl) ?_
        simp only [Act.put, zaj]; refine zah 5 rfl HS0.out (fun _ h => by obtain ⟨⟨s0, s1, s2, s3, s4, s5, s6⟩, s7, s8⟩ := h; go_simp; try rfl) ?_
        simp only [Act.put, zaj]; refine zah 6 rfl HS0.out (fun _ h => by obtain ⟨⟨s0, s1, s2, s3, s4, s5, s6⟩, s7, s8⟩ := h; go_simp; try rfl) ?_
        simp only [Act.put, zaj]; refine zah 7 rfl HS0.out (fun _ h => by obtain ⟨⟨s0, s1, s2, s3, s4, s5, s6⟩, s7, s8⟩ := h; go_simp; try rfl) ?_
        simp only [Act.put, zaj]; refine zah 8 rfl HS0.out (fun _ h => by obtain ⟨⟨s0, s1, s2, s3, s4, s5, s6⟩, s7, s8⟩ := h; go_simp; try rfl) ?_
        simp only [Act.put, zaj]; refine zah 9 rfl HS0.out (fun _ h => by obtain ⟨⟨s0, s1, s2, s3, s4, s5, s6⟩, s7, s8⟩ := h; go_simp; try rfl) ?_
        simp only [Act.put, zaj]; refine zah 10 rfl HS0.out (fun _ h => by obtain ⟨⟨s0, s1, s2, s3, s4, s5, s6⟩, s7, s8⟩ := h; go_simp; try rfl) ?_
        simp only [Act.put, zaj]; refine zah 11 rfl HS0.out (fun _ h => by obtain ⟨⟨s0, s1, s2, s3, s4, s5, s6⟩, s7, s8⟩ := h; go_simp; try rfl) ?_
        simp only [Act.put, zaj]; refine zah 12 rfl HS0.out (fun _ h => by obtain ⟨⟨s0, s1, s2, s3, s4, s5, s6⟩, s7, s8⟩ := h; go_simp; try rfl) ?_
        simp only [Act.put, zaj]; refine zah 13 rfl HS0.out (fun _ h => by obtain ⟨⟨s0, s1, s2, s3, s4, s5, s6⟩, s7, s8⟩ := h; go_simp; try rfl) ?_
        simp only [Act.put, zaj]; refine zah 14 rfl HS0.out (fun _ h => by obtain ⟨⟨s0, s1, s2, s3, s4, s5, s6⟩, s7, s8⟩ := h; go_simp; try rfl) ?_
        simp only [Act.put, zaj]; refine zah 15 rfl HS0.out (fun _ h => by obtain ⟨⟨s0, s1, s2, s3, s4, s5, s6⟩, s7, s8⟩ := h; go_simp; try rfl) ?_
        simp only [Act.put, zaj]; refine zah 16 rfl HS0.out (fun _ h => by obtain ⟨⟨s0, s1, s2, s3, s4, s5, s6⟩, s7, s8⟩ := h; go_simp; try rfl) ?_
        simp only [Act.put, zaj]; refine zah 17 rfl HS0.out (fun _ h => by obtain ⟨⟨s0, s1, s2, s3, s4, s5, s6⟩, s7, s8⟩ := h; go_simp; try rfl) ?_
        simp only [Act.put, zaj]; refine zah 18 rfl HS0.out (fun _ h => by obtain ⟨⟨s0, s1, s2, s3, s4, s5, s6⟩, s7, s8⟩ := h; go_simp; try rfl) ?_
        simp only [Act.put, zaj]; refine zah 19 rfl HS0.out (fun _ h => by obtain ⟨⟨s0, s1, s2, s3, s4, s5, s6⟩, s7, s8⟩ := h; go_simp; try rfl) ?_
        simp only [Act.put, zaj]; refine zah 20 rfl HS0.out (fun _ h => by obtain ⟨⟨s0, s1, s2, s3, s4, s5, s6⟩, s7, s8⟩ := h; go_simp; try rfl) ?_
        simp only [Act.put, zaj]; refine zah 21 rfl HS0.out (fun _ h => by obtain ⟨⟨s0, s1, s2, s3, s4, s5, s6⟩, s7, s8⟩ := h; go_simp; try rfl) ?_
        simp only [Act.put, zaj]; have hcl := Kd.za0 (Kd.zbm HRC.out HN2.out.low); have hcall := count_calls f e dk ag nm ct dh uf AC cC X2 hcl.2.2 HCT.out; rw [← HCF.out] at hcall; refine zaN (i := 22) rfl (by kernel_rfl) (fun K hK => ?_)
        go_simp
        refine hcall.mono ?_
        rintro e_ w5 ⟨rfl, hb5⟩
        have HB5 := zaa.mk hb5; have HS5 := zaa.mk (HSX.out w5 (HN2.out.below hb5).low); clear hcall hcl hb5; refine hK.out _ _ (fun _ => HS5.out) (fun _ => ?_)
        clear hK K; try simp only [Act.put, zaj]
        cases rb with
        | false =>
         refine zah 23 rfl HS5.out (fun _ h => by obtain ⟨⟨s0, s1, s2, s3, s4, s5, s6⟩, s7, s8⟩ := h; go_simp; try rfl) ?_
         simp only [Act.put, zaj]; refine zbb (by kernel_rfl) (NoPanic.normal ?_) _
         go_wp2
         go_roundg (m.length - (k + 1))
         case measure => have := HKK.out; omega
         case rel => exact ⟨k + 1, by rw [HLN2.out]; simp, by go_num, by omega, ⟨rfl⟩, ⟨zai (zai HBK.out HB2'.out) HB5.out⟩⟩
        | true =>
         refine zah 23 rfl HS5.out (fun _ h => by obtain ⟨⟨s0, s1, s2, s3, s4, s5, s6⟩, s7, s8⟩ := h; go_simp; try rfl) ?_
         simp only [Act.put, zaj]; refine zbb (by kernel_rfl) (NoPanic.normal ?_) _
         go_wp2
         go_roundg (m.length - (k + 1))
         case measure => have := HKK.out; omega
         case rel => exact ⟨k + 1, by rw [HLN2.out]; simp, by go_num, by omega, ⟨rfl⟩, ⟨zai (zai HBK.out HB2'.out) HB5.out⟩⟩
       ·have e1 : (nm.toList == un.toList) = false := beq_eq_false_iff_ne.mpr (fun h => n1 (ba_inj h))
        have HLN2 := zaa.mk (show lastD dl un uf (k + 1) = ld by rw [HLD.out, if_neg (fun h => n1 h.1)])
        clear n1; go_upto_region 16 with (fail)
        go_quiet (fail)
        have HBQ := zaa.mk (show Below wr.heap.size wr (wr.drewN nq) from ⟨rfl, rfl, rfl, Nat.le_refl _, fun _ _ => rfl⟩)
        go_wp2
        go_roundg (m.length - (k + 1))
        case measure => have := HKK.out; omega
        case rel => exact ⟨k + 1, by rw [HLN2.out], by go_num, by omega, ⟨rfl⟩, ⟨zai HBK.out HBQ.out⟩⟩
      ·have hke : k = m.length := by omega
       obtain ⟨ld, hld⟩ : ∃ ld, ld = lastD dl un uf k := ⟨_, rfl⟩; have HOU := zaa.mk (show outU dl (uf, ue, un) = ⟨⟨uf, ue⟩, ld⟩ by rw [hld, hke, HML.out]; rfl)
       obtain ⟨A0, c0, e0⟩ := Kd.zbo HNK.out.rb; obtain ⟨n0, hn0⟩ : ∃ n0, n0 = ((us.take i).map (outU dl)).length := ⟨_, rfl⟩; rw [← hn0] at e0; subst e0; rw [← hld]; clear hke hld hn0; go_upto_region 18 with (fail)
       obtain ⟨X2, hX2⟩ : ∃ X2 : World, X2 = wr.drew := ⟨_, rfl⟩; have HB2' := zaa.mk (show Below wr.heap.size wr X2 by rw [hX2]; exact (Below.refl _ _).drew)
       have HN2 := zaa.mk (HNK.out.below HB2'.out); have HSX := zaa.mk (fun (w : World) (hw : Below w3.heap.size w3 w) (hc : w.heap[b8]? = some (.cells #[v0, .slice A0 n0 c0] 26 (0, 0))) => (show (w.cell? ⟨b8, 1, none⟩ = some (.slice A0 n0 c0) ∧ b8 < w.heap.size) ∧ w.cell? (adu.add (i * 3)) = some (.int .i64 uf) ∧ w.cell? ⟨(adu.add (i * 3)).block, (adu.add (i * 3)).off + 1, none⟩ = some (.int .i64 ue) from by
        obtain ⟨ad3, e3, k0, k1, _⟩ := use_at (HRU.out w hw) i _ HUI.out; obtain rfl := Option.some.inj e3; have h4 := zaf hc 1; simp at h4; exact ⟨⟨h4, zaO hc⟩, k0, k1⟩))
       obtain ⟨g, cap, w5, hrun, hl5, hc5, hn5⟩ := names_b HN2.out HB8L.out HN0.out ⟨⟨uf, ue⟩, ld⟩ rfl; have HL5 := zaa.mk hl5; have HC5 := zaa.mk hc5; have HN5 := zaa.mk hn5; have HS0 := zaa.mk (HSX.out X2 HN2.out.low HN2.out.cell); have HS7 := zaa.mk (HSX.out (X2.alloc (.cells #[.int .i64 uf, .int .i64 ue, .int .i64 ld] 43)) (HN2.out.below (zad (Below.refl _ _) _)).low (HN2.out.below (zad (Below.refl _ _) _)).cell); have HS8 := zaa.mk (HSX.out w5 hl5 hc5); clear hl5 hc5 hn5; refine wp_region_noPanic (zbn [0, 1, 2, 3, 4, 5, 6, 7, 8, 9, 10, 11] (fun w => (w.cell? ⟨b8, 1, none⟩ = some (.slice A0 n0 c0) ∧ b8 < w.heap.size) ∧ w.cell? (adu.add (i * 3)) = some (.int .i64 uf) ∧ w.cell? ⟨(adu.add (i * 3)).block, (adu.add (i * 3)).off + 1, none⟩ = some (.int .i64 ue)) mixD ?_)
       rw [← hX2]; clear hX2; refine zah 0 rfl HS0.out (fun _ h => by obtain ⟨⟨s0, s1⟩, s2, s3⟩ := h; go_simp; try rfl) ?_
       simp only [Act.put, zaj]; refine zah 1 rfl HS0.out (fun _ h => by obtain ⟨⟨s0, s1⟩, s2, s3⟩ := h; go_simp; try rfl) ?_
       simp only [Act.put, zaj]; refine zah 2 rfl HS0.out (fun _ h => by obtain ⟨⟨s0, s1⟩, s2, s3⟩ := h; go_simp; try rfl) ?_
       simp only [Act.put, zaj]; refine zah 3 rfl HS0.out (fun _ h => by obtain ⟨⟨s0, s1⟩, s2, s3⟩ := h; go_simp; try rfl) ?_
       simp only [Act.put, zaj]; refine zah 4 rfl HS0.out (fun _ h => by obtain ⟨⟨s0, s1⟩, s2, s3⟩ := h; go_simp; try rfl) ?_
       simp only [Act.put, zaj]; refine zah 5 rfl HS0.out (fun _ h => by obtain ⟨⟨s0, s1⟩, s2, s3⟩ := h; go_simp; try rfl) ?_
       simp only [Act.put, zaj]; refine zah 6 rfl HS0.out (fun _ h => by obtain ⟨⟨s0, s1⟩, s2, s3⟩ := h; go_simp; try rfl) ?_
       simp only [Act.put, zaj]; refine zah 7 rfl HS0.out (fun _ h => by obtain ⟨⟨s0, s1⟩, s2, s3⟩ := h; go_simp; try rfl) ?_
       simp only [Act.put, zaj]; refine zah 8 rfl HS0.out (fun _ h => by obtain ⟨⟨s0, s1⟩, s2, s3⟩ := h; go_simp; try rfl) ?_
       simp only [Act.put, zaj]; refine zaN (i := 9) rfl (by kernel_rfl) (fun K hK => ?_)
       go_simp
       refine hK.out _ _ (fun _ => HS7.out) (fun _ => ?_)
       clear hK K; try simp only [Act.put, zaj]
       refine zaN (i := 10) rfl (by kernel_rfl) (fun K hK => ?_)
       refine wpO_app (by rfl) _ _ _ rfl hrun ?_
       clear hrun; refine hK.out _ _ (fun _ => HS8.out) (fun _ => ?_)
       clear hK K; try simp only [Act.put, zaj]
       refine zah 11 rfl HS8.out (fun _ h => by obtain ⟨⟨s0, s1⟩, s2, s3⟩ := h; go_simp; try rfl) ?_
       simp only [Act.put, zaj]; have r1 := zaf HC5.out 1; have g1 := zab HC5.out 1; have lb := zaO HC5.out; simp at r1; refine zaN (i := 12) rfl (by kernel_rfl) (fun K hK => ?_)
       go_simp
       refine hK.out _ _ (fun h => Bool.noConfusion (show false = true from h)) (fun _ => ?_)
       clear hK K; try simp only [Act.put, zaj]
       refine zbb (by kernel_rfl) (NoPanic.normal ?_) _
       clear r1 g1 lb; go_wp2_with fail
       go_roundg (us.length - (i + 1))
       case measure => have := HKQ2.out; omega
       case rel => exact ⟨i + 1, by go_num, by omega, ⟨rfl⟩, _, ⟨by rw [HNX.out, HOU.out]; exact HN5.out⟩⟩
    ·have hie : i = us.length := by omega
     subst hie; have HNE := zaa.mk (show NmI w3 wr b8 v0 vb (dl.map outD) (us.map (outU dl)) by have h := HNI.out; rwa [List.take_length] at h)
     have hc4 := zaa.mk (show wr.heap[W.heap.size + 1]? = some (.cells #[.slice none 0 0, .slice none 0 0] 26 (0, 0)) from zat HC43.out HNE.out.low)
     obtain ⟨Av, cv, ev⟩ := Kd.zbo HNE.out.rd; obtain ⟨Ab, cb, eb⟩ := Kd.zbo HNE.out.rb; obtain ⟨nv, hnv⟩ : ∃ nv, nv = (dl.map outD).length := ⟨_, rfl⟩; obtain ⟨nb, hnb⟩ : ∃ nb, nb = (us.map (outU dl)).length := ⟨_, rfl⟩; rw [← hnv] at ev; rw [← hnb] at eb; subst ev; subst eb; have r0 := zaf HNE.out.cell 0; have r1 := zaf HNE.out.cell 1; have l8 := zaO HNE.out.cell; have q0 := zaf hc4.out 0; have q1 := zaf hc4.out 1; have g0 := zab hc4.out 0; have g1 := zab hc4.out 1; have l4 := zaO hc4.out; simp at r0 r1 q0 q1; clear hnv hnb HNI; go_wp2
     have hz := zbt (zbt hc4.out 0 (.slice Av nv cv)) 1 (.slice Ab nb cb); simp at hz; refine bodyPost_ret (zb0 rfl _ _ (W.heap.size + 1) 26 _ (0, 0) _ rfl hz Tryd.underlying26 rfl (by kernel_rfl)) rfl ?_
     have hb : W.heap.size ≤ W.heap.size + 1 := Nat.le_succ _; have hW3 : Below W.heap.size W w3 := HBW2.out.trans (HF3.out.low.mono HBW2.out.size); have hWr : Below W.heap.size W wr := zbN hW3 (HNE.out.low.mono (Nat.le_refl _)) hW3.size; refine ⟨_, _, by rw [HOF.out]; rfl, (hWr.setCell hb _).setCell hb _, ?_, ?_⟩
     ·rw [HOF.out]
      have h1 := Kd.R_set (Kd.R_set HNE.out.rd hc4.out (by decide) 0 (.slice Av nv cv)) (by simpa using zbt hc4.out 0 (.slice Av nv cv)) (by decide) 1 (.slice Ab nb cb)
      exact Kd.zbT (Kd.zbz h1 hW3.size) (fun _ hq => Nat.le_trans hW3.size hq)
     ·rw [HOF.out]
      have h1 := Kd.R_set (Kd.R_set HNE.out.rb hc4.out (by decide) 0 (.slice Av nv cv)) (by simpa using zbt hc4.out 0 (.slice Av nv cv)) (by decide) 1 (.slice Ab nb cb)
      exact Kd.zbT (Kd.zbz h1 hW3.size) (fun _ hq => Nat.le_trans hW3.size hq)
end Go.Proofs.YtobgkpnigjfhmaaDoor.H
