/- Maps whose values are taken as they are: what a map of the call's own holds at a key. -/
import Derived.Test.YtaphacgdokhmmaaDoorVHx0
import Derived.Maps.OwnSet
import Derived.Maps.Views
import Derived.Maps.OwnOps
set_option linter.unusedVariables false
set_option linter.unusedSimpArgs false
namespace Go.Proofs.YtaphacgdokhmmaaDoor.H
open Go.RowKit Go.Proofs.YtaphacgdokhmmaaDoorW.PrintWords Go.Proofs.YtaphacgdokhmmaaDoorW.PrintLast Go.Proofs.YtaphacgdokhmmaaDoorW.PrintMore
open Go.Maps (Keyed IsMap)
section
def rawE (v : Value) : Option (DataW Value × List MemPlace) := some (.held v, [])
def mval (D : DataW Value) (kl : Lit) (z : Value) : Value := match D.atKey kl (.held z) with | .held v => v | _ => z
variable {P : Program} {k t e : TypeId} {W : World} {b n : Nat} {D : DataW Value} {key val z : Value} {kl kl' : Lit}
theorem rawE_inv {v : Value} {d : DataW Value} {ps : List MemPlace} (h : rawE v = some (d, ps)) : d = .held v := by
  simp [rawE] at h
  exact h.1.symm
theorem omap_look (h : W.ownsMap P k rawE b n D) (K : Keyed P k) (ht : P.underlying t = some (.map k e)) (hz : (zeroValue e).run P W = .ok z W) (hkey : keyOf P k key = some kl) :
    (Instr.lookup t (.map (some b)) key false).run P W = .ok (mval D kl z) W := by
  obtain ⟨v, ps, hr, hv⟩ := h.lookup K ht hz (zd := .held z) (zp := []) rfl hkey
  rw [hr]
  unfold mval
  rw [rawE_inv hv]
theorem omap_store (h : W.ownsMap P k rawE b n D) (K : Keyed P k) (ht : P.underlying t = some (.map k e)) (hn : n < maxLen) (hkey : keyOf P k key = some kl) :
    ∃ W', (Instr.mapUpdate t (.map (some b)) key val).run P W = .ok () W' ∧ W'.ownsMap P k rawE b (n + 1) (D.put kl (.held val)) ∧ W.mapTurned W' b :=
  h.store K ht hn hkey rfl
theorem omap_delete (h : W.ownsMap P k rawE b n D) (K : Keyed P k) (ht : P.underlying t = some (.map k e)) (hkey : keyOf P k key = some kl) (ty : TypeId) :
    ∃ W', (Builtin.delete_ #[t, k] ty #[.map (some b), key]).run P W = .ok (.tuple #[]) W' ∧ W'.ownsMap P k rawE b n (D.del kl) ∧ W.mapTurned W' b :=
  h.drop K ht hkey ty
theorem mval_put_same (hD : IsMap D) (hk : WideAt.IsKeyLit kl) : mval (D.put kl (.held val)) kl z = val := by
  unfold mval
  rw [Maps.atKey_put_same hD hk]
theorem mval_put_other (hne : kl' ≠ kl) : mval (D.put kl (.held val)) kl' z = mval D kl' z := by
  unfold mval
  rw [Maps.atKey_put_other hne]
theorem mval_del_same : mval (D.del kl) kl z = z := by
  unfold mval
  rw [Maps.atKey_del_same]
theorem mval_del_other (hne : kl' ≠ kl) : mval (D.del kl) kl' z = mval D kl' z := by
  unfold mval
  rw [Maps.atKey_del_other hne]
theorem mval_empty : mval (.map []) kl z = z := by simp [mval, DataW.atKey]
end
end Go.Proofs.YtaphacgdokhmmaaDoor.H
