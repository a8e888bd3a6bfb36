/- CacheApart: the law walked. -/
import Derived.Test.YtaphacgdokhmmaaDoorVHCacheAwake
import Derived.Laws.Strings
set_option linter.unusedVariables false
set_option linter.unusedSimpArgs false
namespace Go.Proofs.YtaphacgdokhmmaaDoor.H
open Go.RowKit Go.Shelf Go.Proofs.YtaphacgdokhmmaaDoorW.PrintWords Go.Proofs.YtaphacgdokhmmaaDoorW.PrintLast Go.Proofs.YtaphacgdokhmmaaDoorW.PrintMore
theorem toList_inj {a b : ByteArray} (h : a.toList = b.toList) : a = b := by
  rw [ByteArray.toList_eq, ByteArray.toList_eq] at h
  exact Go.WideShapes.bytes_inj h
theorem dec_ne {m n : Nat} (h : m ≠ n) : ((dec (m : Int)).toList == (dec (n : Int)).toList) = false := by
  rw [beq_eq_false_iff_ne]
  intro e
  have := toList_inj e
  unfold dec at this
  injection this with h2
  exact h (itoa_inj (by simpa using h2))
structure ActIs (W : World) (ad : Addr) (A3 : Option Addr) (c3 : Nat) (x : S36) : Prop where
  k : W.cell? ad = some (.int .i64 x.f0)
  u : W.cell? ⟨ad.block, ad.off + 1, none⟩ = some (.string x.f1)
  d : W.cell? ⟨ad.block, ad.off + 2, none⟩ = some (.string x.f2)
  l : W.cell? ⟨ad.block, ad.off + 3, none⟩ = some (.slice A3 x.f3.length c3)
theorem ActIs.below {W w : World} {ad : Addr} {A3 : Option Addr} {c3 : Nat} {x : S36} (h : ActIs W ad A3 c3 x) (hb : Below W.heap.size W w) : ActIs w ad A3 c3 x := by
  have hl := World.block_lt_of_cell? W _ h.k
  exact ⟨(hb.cell hl).trans h.k, (hb.cell (p := ⟨ad.block, ad.off + 1, none⟩) hl).trans h.u, (hb.cell (p := ⟨ad.block, ad.off + 2, none⟩) hl).trans h.d, (hb.cell (p := ⟨ad.block, ad.off + 3, none⟩) hl).trans h.l⟩
theorem act_in {W : World} {A : Option Addr} {l : List S36} (h : Kd.C k36 W A l.length l) (i : Nat) (hi : i < l.length) :
    ∃ ad A3 c3, A = some ad ∧ ActIs W (ad.add (i * 4)) A3 c3 (l.getD i z36) ∧ (l.getD i z36).f3.length ≤ c3 ∧ Kd.C (Kd.int .i64) W A3 (l.getD i z36).f3.length (l.getD i z36).f3 := by
  obtain ⟨ad, A3, c3, e, k0, k1, k2, k3, hl, hF⟩ := act_at (Kd.C_F k36_heap_ h) i hi
  exact ⟨ad, A3, c3, e, ⟨k0, k1, k2, k3⟩, hl, Kd.F_now hF⟩
end Go.Proofs.YtaphacgdokhmmaaDoor.H
