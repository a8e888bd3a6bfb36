/- Trees with where their kids lie: what a walk over a tree hands on. -/
import Derived.Test.YtghbfjmmjfklfaaQHTreeGrow
import Derived.Deep.Slices
set_option linter.unusedVariables false
set_option linter.unusedSimpArgs false
namespace Go.Proofs.Ytghbfjmmjfklfaa.H
open Go.RowKit Go.Proofs.YtghbfjmmjfklfaaW.PrintWords Go.Proofs.YtghbfjmmjfklfaaW.PrintLast Go.Proofs.YtghbfjmmjfklfaaW.PrintMore
inductive AT where
  | node (k w wd : Int) (A : Option Addr) (c : Nat) (kids : List AT)
namespace AT
def k : AT → Int
  | node k _ _ _ _ _ => k
def w : AT → Int
  | node _ w _ _ _ _ => w
def wd : AT → Int
  | node _ _ wd _ _ _ => wd
def A : AT → Option Addr
  | node _ _ _ A _ _ => A
def c : AT → Nat
  | node _ _ _ _ c _ => c
def kids : AT → List AT
  | node _ _ _ _ _ kids => kids
def val (T : AT) : Value := .agg #[.int .u8 T.k, .int .u8 T.w, .int .i64 T.wd, .slice T.A T.kids.length T.c]
end AT
mutual
def AT.erase : AT → S27
  | .node k w wd _ _ kids => ⟨k, w, wd, eraseL kids⟩
def eraseL : List AT → List S27
  | [] => []
  | T :: r => T.erase :: eraseL r
end
theorem eraseL_length : ∀ l : List AT, (eraseL l).length = l.length
  | [] => rfl
  | _ :: r => by simp [eraseL, eraseL_length r]
def w0 (W : World) (ad : Addr) (i : Nat) (T : AT) : Prop := W.cell? (ad.add (i * 4)) = some (.int .u8 T.k) ∧ W.cell? ⟨(ad.add (i * 4)).block, (ad.add (i * 4)).off + 1, none⟩ = some (.int .u8 T.w) ∧ W.cell? ⟨(ad.add (i * 4)).block, (ad.add (i * 4)).off + 2, none⟩ = some (.int .i64 T.wd) ∧ W.cell? ⟨(ad.add (i * 4)).block, (ad.add (i * 4)).off + 3, none⟩ = some (.slice T.A T.kids.length T.c)
theorem w0.below {W W1 : World} {ad : Addr} {i : Nat} {T : AT} (h : w0 W ad i T) (hb : Below W.heap.size W W1) : w0 W1 ad i T := by
  obtain ⟨h0, h1, h2, h3⟩ := h
  exact ⟨(hb.cell (World.block_lt_of_cell? W _ h0)).trans h0, (hb.cell (World.block_lt_of_cell? W _ h1)).trans h1, (hb.cell (World.block_lt_of_cell? W _ h2)).trans h2, (hb.cell (World.block_lt_of_cell? W _ h3)).trans h3⟩
mutual
/-- The memory holds the kids of the node, and theirs. -/
def AtT (W : World) : AT → Prop
  | .node _ _ _ A c kids => kids.length ≤ c ∧ kids.length ≤ 9223372036854775807 ∧ (kids = [] ∨ ∃ ad, A = some ad ∧ AtL W ad 0 kids)
def AtL (W : World) (ad : Addr) : Nat → List AT → Prop
  | _, [] => True
  | i, T :: r => (w0 W ad i T ∧ AtT W T) ∧ AtL W ad (i + 1) r
end
mutual
theorem AtT.below {W W1 : World} (hb : Below W.heap.size W W1) : ∀ (T : AT), AtT W T → AtT W1 T
  | .node _ _ _ A c kids, h => by
    simp only [AtT] at h ⊢
    refine ⟨h.1, h.2.1, ?_⟩
    rcases h.2.2 with h | ⟨ad, h1, h2⟩
    · exact .inl h
    · exact .inr ⟨ad, h1, AtL.below hb ad 0 kids h2⟩
theorem AtL.below {W W1 : World} (hb : Below W.heap.size W W1) (ad : Addr) : ∀ (i : Nat) (l : List AT), AtL W ad i l → AtL W1 ad i l
  | _, [], _ => by simp only [AtL]
  | i, T :: r, h => by
    simp only [AtL] at h ⊢
    exact ⟨⟨h.1.1.below hb, AtT.below hb T h.1.2⟩, AtL.below hb ad (i + 1) r h.2⟩
end
theorem AtL.get {W : World} {ad : Addr} : ∀ (l : List AT) (i j : Nat) (h : AtL W ad i l) (hj : j < l.length), w0 W ad (i + j) l[j] ∧ AtT W l[j]
  | [], i, j, _, hj => absurd hj (Nat.not_lt_zero _)
  | T :: r, i, 0, h, _ => by simp only [AtL] at h; exact h.1
  | T :: r, i, j + 1, h, hj => by
    simp only [AtL] at h
    have := AtL.get r (i + 1) j h.2 (by simpa using hj)
    rw [show i + (j + 1) = i + 1 + j by omega]
    exact this
theorem AtT.kid {W : World} {k w wd : Int} {A : Option Addr} {c : Nat} {kids : List AT} (h : AtT W (.node k w wd A c kids)) (j : Nat) (hj : j < kids.length) : ∃ ad, A = some ad ∧ w0 W ad j kids[j] ∧ AtT W kids[j] := by
  simp only [AtT] at h
  rcases h.2.2 with rfl | ⟨ad, h1, h2⟩
  · exact absurd hj (Nat.not_lt_zero _)
  · have := AtL.get kids 0 j h2 hj
    rw [Nat.zero_add] at this
    exact ⟨ad, h1, this⟩
theorem AtL.of {W : World} {ad : Addr} : ∀ (l : List AT) (i : Nat), (∀ (j : Nat) (hj : j < l.length), w0 W ad (i + j) l[j] ∧ AtT W l[j]) → AtL W ad i l
  | [], i, _ => by simp only [AtL]
  | T :: r, i, h => by
    simp only [AtL]
    refine ⟨by have := h 0 (by simp); simpa using this, AtL.of r (i + 1) fun j hj => ?_⟩
    have := h (j + 1) (by simpa using hj)
    rw [show i + (j + 1) = i + 1 + j by omega] at this
    exact this
theorem eraseL_get : ∀ (l : List AT) (j : Nat) (h : j < l.length), rd_T27 (eraseL l) (j : Int) = l[j].erase
  | [], j, h => absurd h (Nat.not_lt_zero _)
  | T :: r, 0, _ => by simp [eraseL, rd_T27]
  | T :: r, j + 1, h => by
    have := eraseL_get r j (by simpa using h)
    simp only [eraseL, List.getElem_cons_succ]
    rw [← this]
    simp [rd_T27]
theorem erase_f (T : AT) : T.erase = ⟨T.k, T.w, T.wd, eraseL T.kids⟩ := by cases T; simp [AT.erase, AT.k, AT.w, AT.wd, AT.kids]
theorem exists_AT (W : World) (n : Nat) : ∀ (t : S27), SizeOf.sizeOf t < n → ∀ (A : Option Addr) (c : Nat), t.f3.length ≤ c → Kd.C k27 W A t.f3.length t.f3 → ∃ kids : List AT, eraseL kids = t.f3 ∧ AtT W (.node t.f0 t.f1 t.f2 A c kids) := by
  induction n with
  | zero => intro t h; exact absurd h (Nat.not_lt_zero _)
  | succ n ih =>
    rintro ⟨k, w, wd, l⟩ ht A c hc hC
    simp only at hc hC ⊢
    have hel : ∀ i, i < l.length → ∃ T : AT, T.erase = rd_T27 l (i : Int) ∧ ∃ ad, A = some ad ∧ w0 W ad i T ∧ AtT W T := by
      intro i hi
      obtain ⟨ad, A3, c3, e, g0, g1, g2, g3, gl, gC⟩ := at_T27 hC (i : Int) (by omega) (by omega)
      rw [Int.toNat_natCast] at g0 g1 g2 g3
      have hm : rd_T27 l (i : Int) ∈ l := by rw [rd_at27 l i hi]; exact List.getElem_mem hi
      have hsz := List.sizeOf_lt_of_mem hm
      simp only [S27.mk.sizeOf_spec] at ht
      obtain ⟨kids, he, hA⟩ := ih (rd_T27 l (i : Int)) (by omega) A3 c3 gl gC
      refine ⟨.node _ _ _ A3 c3 kids, ?_, ad, e, ⟨g0, g1, g2, ?_⟩, hA⟩
      · rw [AT.erase, he, eta27]
      · rw [show (AT.node (rd_T27 l (i : Int)).f0 (rd_T27 l (i : Int)).f1 (rd_T27 l (i : Int)).f2 A3 c3 kids).kids.length = (rd_T27 l (i : Int)).f3.length by rw [← he, eraseL_length]; rfl]
        exact g3
    haveI : Inhabited AT := ⟨.node 0 0 0 none 0 []⟩
    obtain ⟨f, hf⟩ := Deep.choose_lt hel
    have hlen : ((List.range l.length).map f).length = l.length := by simp
    refine ⟨(List.range l.length).map f, ?_, ?_⟩
    · refine List.ext_getElem (by rw [eraseL_length, hlen]) fun j h1 h2 => ?_
      have := (hf j h2).1
      rw [rd_at27 l j h2] at this
      rw [← rd_at27 _ j h1, eraseL_get _ j (by rw [hlen]; exact h2), ← this]
      simp
    · simp only [AtT]
      refine ⟨by rw [hlen]; exact hc, by rw [hlen]; exact hC.2.1, ?_⟩
      rcases Nat.eq_zero_or_pos l.length with h0 | h0
      · exact .inl (by rw [h0]; rfl)
      · obtain ⟨_, ad, he, _⟩ := hf 0 h0
        refine .inr ⟨ad, he, AtL.of _ 0 fun j hj => ?_⟩
        rw [hlen] at hj
        obtain ⟨_, ad', he', h1, h2⟩ := hf j hj
        rw [he] at he'
        cases he'
        simpa using ⟨h1, h2⟩
theorem C_of_AT (n : Nat) : ∀ (T : AT), SizeOf.sizeOf T < n → ∀ (W : World), AtT W T → Kd.C k27 W T.A T.kids.length (eraseL T.kids) := by
  induction n with
  | zero => intro T h; exact absurd h (Nat.not_lt_zero _)
  | succ n ih =>
    rintro ⟨k, w, wd, A, c, kids⟩ ht W h
    simp only [AT.A, AT.kids]
    have hm : kids.length ≤ 9223372036854775807 := by simp only [AtT] at h; exact h.2.1
    refine ⟨eraseL_length kids, hm, fun hpos => ?_⟩
    obtain ⟨ad, e, _, _⟩ := AtT.kid h 0 hpos
    refine ⟨ad, e, fun j p hj => ?_⟩
    obtain ⟨hlt, rfl⟩ := List.getElem?_eq_some_iff.1 hj
    have hlt2 : j < kids.length := by rw [← eraseL_length]; exact hlt
    obtain ⟨ad', e', ⟨h0, h1, h2, h3⟩, hT⟩ := AtT.kid h j hlt2
    rw [e] at e'
    cases e'
    have hs : SizeOf.sizeOf kids[j] < n := by
      have := List.sizeOf_lt_of_mem (List.getElem_mem hlt2)
      simp only [AT.node.sizeOf_spec] at ht
      omega
    have hC := ih kids[j] hs W hT
    have hle : kids[j].kids.length ≤ kids[j].c := by
      cases hk : kids[j] with
      | node k w wd A c l =>
        rw [hk] at hT
        simp only [AtT] at hT
        exact hT.1
    have ep : (eraseL kids)[j] = kids[j].erase := by rw [← rd_at27 _ j hlt, eraseL_get _ j hlt2]
    rw [ep, erase_f]
    refine ⟨[.int .u8 kids[j].k, .int .u8 kids[j].w, .int .i64 kids[j].wd, .slice kids[j].A kids[j].kids.length kids[j].c], rfl, ?_, fun i u hu => ?_⟩
    · have := k27_mk W ⟨kids[j].k, kids[j].w, kids[j].wd, eraseL kids[j].kids⟩ (A3 := kids[j].A) (c3 := kids[j].c) (by simp only; rw [eraseL_length]; exact hle) (by simp only; rw [eraseL_length]; exact hC)
      simp only [eraseL_length] at this
      exact this
    · match i, hu with
      | 0, hu => simp only [List.getElem?_cons_zero, Option.some.injEq] at hu; subst hu; exact h0
      | 1, hu => simp only [List.getElem?_cons_succ, List.getElem?_cons_zero, Option.some.injEq] at hu; subst hu; rw [show k27.sz = 4 from rfl, add_field _ _ 1 (by omega)]; exact h1
      | 2, hu => simp only [List.getElem?_cons_succ, List.getElem?_cons_zero, Option.some.injEq] at hu; subst hu; rw [show k27.sz = 4 from rfl, add_field _ _ 2 (by omega)]; exact h2
      | 3, hu => simp only [List.getElem?_cons_succ, List.getElem?_cons_zero, Option.some.injEq] at hu; subst hu; rw [show k27.sz = 4 from rfl, add_field _ _ 3 (by omega)]; exact h3
end Go.Proofs.Ytghbfjmmjfklfaa.H
