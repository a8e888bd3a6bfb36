/- cache.Cache: what stands in memory; none, Get, Kept, Drop. -/
import Derived.Test.YtaphacgdokhmmaaDoorVHMapRaw
import Derived.Test.YtaphacgdokhmmaaDoorVHLocks
import Derived.Test.YtaphacgdokhmmaaDoorVHClone
import Derived.Test.YtaphacgdokhmmaaDoorVHAppendN
import Derived.Conc.MuLone
import Derived.WalkSpells
import Derived.Defers
set_option linter.unusedVariables false
set_option linter.unusedSimpArgs false
namespace Go.Proofs.YtaphacgdokhmmaaDoor.H
open Go.RowKit Go.Proofs.YtaphacgdokhmmaaDoorW.PrintWords Go.Proofs.YtaphacgdokhmmaaDoorW.PrintLast Go.Proofs.YtaphacgdokhmmaaDoorW.PrintMore
open Go.MuLone
open Go.Maps (Keyed IsMap)
open Go.WideMaps
abbrev Res := ByteArray × List Int
def kres : Kd Res := Kd.pair Kd.string (Kd.slice 3 (Kd.int .i64))
theorem klaw : Keyed Tryd.prog 9 := Go.Maps.string_keyed Tryd.underlying9
def keyS (u : ByteArray) : Lit := .string u.data.toList
theorem keyS_of (u : ByteArray) (h : u.size ≤ maxLen) : keyOf Tryd.prog 9 (.string u) = some (keyS u) := keyOf_string_mk Tryd.underlying9 h
theorem keyS_inj {u v : ByteArray} (h : keyS u = keyS v) : u = v := by
  unfold keyS at h
  injection h with h
  cases u; cases v
  simp only [Array.toList_inj] at h
  rw [h]
theorem keyS_lit (u : ByteArray) : WideAt.IsKeyLit (keyS u) := trivial
abbrev nilS : Value := .slice none 0 0
structure CIx (Fp : Nat → Prop) (W : World) (b bm cnt : Nat) (n s : Int) (D : DataW Value) (ow : Nat → Option ByteArray) (M : ByteArray → List Res) : Prop where
  blk : W.heap[b]? = some (.cells #[.int .i64 n, .int .i32 s, .int .u32 0, .map (some bm)] 51 (0, 0))
  fb : Fp b
  fm : Fp bm
  ne : bm ≠ b
  ob : ow b = none
  om : ow bm = none
  map : W.ownsMap Tryd.prog 9 rawE bm cnt D
  fo : ∀ q, ow q ≠ none → Fp q
  rows : ∀ u : ByteArray, u.size ≤ maxLen → Kd.N kres 67 W 0 (fun q => ow q = some u) (mval D (keyS u) nilS) (M u)
  four : ∀ u, (M u).length ≤ 4
  dat : ∀ u, ∀ x ∈ M u, x.2.length ≤ 60000
def CI (Fp : Nat → Prop) (W : World) (b n : Nat) (M : ByteArray → List Res) : Prop := ∃ (bm cnt : Nat) (D : DataW Value) (ow : Nat → Option ByteArray), cnt ≤ n ∧ CIx Fp W b bm cnt (n : Int) 0 D ow M
section
variable {Fp : Nat → Prop} {W W' : World} {b bm cnt : Nat} {n s : Int} {D : DataW Value} {ow : Nat → Option ByteArray} {M : ByteArray → List Res}
theorem CIx.keep (h : CIx Fp W b bm cnt n s D ow M) (hk : ∀ q, Fp q → q < W.heap.size → W'.heap[q]? = W.heap[q]?) : CIx Fp W' b bm cnt n s D ow M := by
  obtain ⟨es, clock, h1, h2⟩ := h.map
  exact ⟨(hk b h.fb (blk_lt h.blk)).trans h.blk, h.fb, h.fm, h.ne, h.ob, h.om, ⟨es, clock, (hk bm h.fm (Array.getElem?_eq_some_iff.1 h1).1).trans h1, h2⟩, h.fo,
    fun u hu => Kd.N_step (h.rows u hu) (fun q hq hl => hk q (h.fo q (by rw [hq]; simp)) hl), h.four, h.dat⟩
theorem CIx.below (h : CIx Fp W b bm cnt n s D ow M) (hb : Below W.heap.size W W') : CIx Fp W' b bm cnt n s D ow M := h.keep (fun q _ hq => hb.block q hq)
theorem CI.keep {n : Nat} (h : CI Fp W b n M) (hk : ∀ q, Fp q → q < W.heap.size → W'.heap[q]? = W.heap[q]?) : CI Fp W' b n M := by
  obtain ⟨bm, cnt, D, ow, hc, h⟩ := h
  exact ⟨bm, cnt, D, ow, hc, h.keep hk⟩
theorem CI.below {n : Nat} (h : CI Fp W b n M) (hb : Below W.heap.size W W') : CI Fp W' b n M := h.keep (fun q _ hq => hb.block q hq)
theorem CIx.lock (h : CIx Fp W b bm cnt n s D ow M) (s' : Int) : CIx Fp (W.setCell ⟨b, 1, none⟩ (.int .i32 s')) b bm cnt n s' D ow M := by
  have ho : ∀ q, q ≠ b → (W.setCell ⟨b, 1, none⟩ (.int .i32 s')).heap[q]? = W.heap[q]? := fun q hq => Below.heap_setCell _ _ _ _ hq
  obtain ⟨es, clock, h1, h2⟩ := h.map
  exact ⟨by simpa using blk_set h.blk 1 (.int .i32 s'), h.fb, h.fm, h.ne, h.ob, h.om, ⟨es, clock, (ho bm h.ne).trans h1, h2⟩, h.fo,
    fun u hu => Kd.N_step (h.rows u hu) (fun q hq hl => ho q (fun e => by rw [e, h.ob] at hq; cases hq)), h.four, h.dat⟩
theorem lock_below {w9 : World} (h : CIx Fp W b bm cnt n 0 D ow M) (hB : Below (W.setCell ⟨b, 1, none⟩ (.int .i32 1)).heap.size (W.setCell ⟨b, 1, none⟩ (.int .i32 1)) w9) : Below W.heap.size W (w9.setCell ⟨b, 1, none⟩ (.int .i32 0)) := by
  have h1 := (h.lock 1).blk
  have h9 := (hB.block b (blk_lt h1)).trans h1
  have hs : (W.setCell ⟨b, 1, none⟩ (.int .i32 1)).heap.size = W.heap.size := by simp
  rw [hs] at hB
  refine ⟨by simp [World.setCell, hB.os], by simp [World.setCell, hB.tape], by simp [World.setCell, hB.output], by simpa using (by simpa using hB.size), fun q hq => ?_⟩
  by_cases e : q = b
  · subst e
    have := blk_set h9 1 (.int .i32 0)
    simp at this
    rw [this, h.blk]
  · rw [Below.heap_setCell _ _ _ _ e, hB.block q hq, Below.heap_setCell _ _ _ _ e]
theorem at_res {A : Option Addr} {l : Nat} {xs : List Res} (h : Kd.C kres W A l xs) (i : Nat) (hi : i < xs.length) :
    ∃ ad Ad cd, A = some ad ∧ W.cell? (ad.add (i * 2)) = some (.string (xs.getD i default).1) ∧ W.cell? ⟨(ad.add (i * 2)).block, (ad.add (i * 2)).off + 1, none⟩ = some (.slice Ad (xs.getD i default).2.length cd) ∧ (xs.getD i default).2.length ≤ cd ∧ Kd.C (Kd.int .i64) W Ad (xs.getD i default).2.length (xs.getD i default).2 := by
  have hl := h.1
  obtain ⟨ad, c, e, _, hK, hc0⟩ := Kd.C_get h default (i : Int) (by omega) (by omega)
  have hc : ∀ j u, c[j]? = some u → W.cell? (ad.add (i * 2 + j)) = some u := fun j u hu => by have := hc0 j u hu; rw [Int.toNat_natCast] at this; exact this
  simp only [Int.toNat_natCast] at hK
  obtain ⟨c1, c2, rfl, h1, h2⟩ := hK
  obtain rfl : c1 = [.string (xs.getD i default).1] := h1
  obtain ⟨Ad, cd, rfl, l0, g0⟩ := h2
  exact ⟨ad, Ad, cd, e, by simpa using hc 0 _ rfl, by rw [← add_field _ _ 1 (by omega)]; exact hc 1 _ rfl, l0, g0⟩
end
theorem map_nil_ne (bm : Nat) (w : World) : (binOp .eql 49 (.map (some bm)) (.map none)).run Tryd.prog w = .ok (.bool false) w := run_eql_map_nil w _ _ _ (some bm) Tryd.underlying49
set_option maxHeartbeats 8000000 in
set_option maxRecDepth 100000 in
theorem none_calls (b bm : Nat) (n s : Int) (w : World) (h : w.heap[b]? = some (.cells #[.int .i64 n, .int .i32 s, .int .u32 0, .map (some bm)] 51 (0, 0))) :
    Calls Tryd.prog 21 #[.pointer (some ⟨b, 0, none⟩)] w fun e w' => e = .returned (.bool false) ∧ w = w' := by
  have c3 := blk_cell h 3
  simp at c3
  have hm := map_nil_ne bm w
  go_enter Tryd.func21, Tryd.ntmps21
  go_wp2
  go_ret
  exact ⟨rfl, rfl⟩
end Go.Proofs.YtaphacgdokhmmaaDoor.H
