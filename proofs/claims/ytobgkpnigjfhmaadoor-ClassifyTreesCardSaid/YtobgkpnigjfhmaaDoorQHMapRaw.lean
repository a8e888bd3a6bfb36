/- Maps whose values are taken as they are: what a map of the call's own holds at a key. -/
import Derived.Test.YtobgkpnigjfhmaaDoorQHx0
import Derived.Maps.OwnSet
import Derived.Maps.Views
import Derived.Maps.OwnOps
set_option linter.unusedVariables false
set_option linter.unusedSimpArgs false
namespace Go.Proofs.YtobgkpnigjfhmaaDoor.H
open Go.RowKit Go.Proofs.YtobgkpnigjfhmaaDoorW.PrintWords Go.Proofs.YtobgkpnigjfhmaaDoorW.PrintLast Go.Proofs.YtobgkpnigjfhmaaDoorW.PrintMore
open Go.Maps (Keyed IsMap)
section
def rawE (v : Value) : Option (DataW Value × List MemPlace) := some (.held v, [])
def mval (D : DataW Value) (kl : Lit) (z : Value) : Value := match D.atKey kl (.held z) with | .held v => v | _ => z
variable {P : Program} {k t e : TypeId} {W : World} {b n : Nat} {D : DataW Value} {key val z : Value} {kl kl' : Lit}
theorem rawE_inv {v : Value} {d : DataW Value} {ps : List MemPlace} (h : rawE v = some (d, ps)) : d = .held v := by
  simp [rawE] at h
  exact h.1.symm
theorem omap_look (h : W.ownsMap P k rawE b n D) (K : Keyed P k) (ht : P.underlying t = some (.map k e)) (hz : (zeroValue e).run P W = .ok z W) (hkey : keyOf P k key = some kl) :
    (Instr.lookup t (.map (some b)) key false).run P W = .ok (mval D kl z) W := by
  obtain ⟨v, ps, hr, hv⟩ := h.lookup K ht hz (zd := .held z) (zp := []) rfl hkey
  rw [hr]
  unfold mval
  rw [rawE_inv hv]
theorem omap_look_ok (h : W.ownsMap P k rawE b n D) (K : Keyed P k) (ht : P.underlying t = some (.map k e)) (hz : (zeroValue e).run P W = .ok z W) (hkey : keyOf P k key = some kl) :
    (Instr.lookup t (.map (some b)) key true).run P W = .ok (.tuple #[mval D kl z, .bool (Maps.has D kl)]) W := by
  obtain ⟨v, ps, hr, hv⟩ := h.look_ok K ht hz (zd := .held z) (zp := []) rfl hkey
  rw [hr]
  unfold mval
  rw [rawE_inv hv]
theorem omap_store (h : W.ownsMap P k rawE b n D) (K : Keyed P k) (ht : P.underlying t = some (.map k e)) (hn : n < maxLen) (hkey : keyOf P k key = some kl) :
    ∃ W', (Instr.mapUpdate t (.map (some b)) key val).run P W = .ok () W' ∧ W'.ownsMap P k rawE b (n + 1) (D.put kl (.held val)) ∧ W.mapTurned W' b :=
  h.store K ht hn hkey rfl
theorem mval_put_same (hD : IsMap D) (hk : WideAt.IsKeyLit kl) : mval (D.put kl (.held val)) kl z = val := by
  unfold mval
  rw [Maps.atKey_put_same hD hk]
theorem mval_put_other (hne : kl' ≠ kl) : mval (D.put kl (.held val)) kl' z = mval D kl' z := by
  unfold mval
  rw [Maps.atKey_put_other hne]
theorem mval_empty : mval (.map []) kl z = z := by simp [mval, DataW.atKey]
end
theorem turned_grown {W W' : World} {b : Nat} (h : W.mapTurned W' b) : W.grownBy W' (some b) := h.grown
end Go.Proofs.YtobgkpnigjfhmaaDoor.H
