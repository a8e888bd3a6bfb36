/- What a store into a node's variable leaves of both cursors; both Takes, told alike. -/
import Derived.Test.YtghbfjmmjfklfaaQHCursorTaken
set_option linter.unusedVariables false
set_option linter.unusedSimpArgs false
namespace Go.Proofs.Ytghbfjmmjfklfaa.H
open Go.RowKit Go.Proofs.YtghbfjmmjfklfaaW.PrintWords Go.Proofs.YtghbfjmmjfklfaaW.PrintLast Go.Proofs.YtghbfjmmjfklfaaW.PrintMore
theorem R_put4 {α : Type} {d : Kd α} {e base : Nat} {ok : Nat → Prop} {v : Value} {xs : List α} {w : World} {q : Nat} {v0 v1 v2 v3 : Value} (h : Kd.R d e w base ok v xs) (hq : w.heap[q]? = some (.cells #[v0, v1, v2, v3] 27 (0, 0))) (ht : ∀ p, p ∈ e :: d.E → p ≠ 27) (u0 u1 u2 u3 : Value) : Kd.R d e (put4 w q u0 u1 u2 u3) base ok v xs := by
  have b1 := blk_set hq 0 u0
  have b2 := blk_set b1 1 u1
  have b3 := blk_set b2 2 u2
  exact Kd.R_set (Kd.R_set (Kd.R_set (Kd.R_set h hq ht 0 u0) b1 ht 1 u1) b2 ht 2 u2) b3 ht 3 u3
theorem CN.put4 {w0 w : World} {n0 g b r cap : Nat} {fi oe ne tk : Int} {nm : Nat} {M : PMap} {xs : List Int} (h : CN w0 w n0 g b r cap fi oe ne tk nm M xs) {q : Nat} {v0 v1 v2 v3 : Value} (hq : w.heap[q]? = some (.cells #[v0, v1, v2, v3] 27 (0, 0))) (hn : n0 ≤ q) (u0 u1 u2 u3 : Value) : CN w0 (put4 w q u0 u1 u2 u3) n0 g b r cap fi oe ne tk nm M xs := by
  have hg : g ≠ q := fun e => by
    have := h.cur
    rw [e, hq] at this
    injection this with this
    injection this with _ h2 _
    exact absurd h2 (by decide)
  have hb : b ≠ q := fun e => by
    obtain ⟨D, ⟨es, clock, hc, _⟩, _⟩ := h.map.own
    rw [e, hq] at hc
    injection hc with hc
    injection hc
  exact ⟨put4_below h.low hn _ _ _ _, (put4_other hg _ _ _ _).trans h.cur, h.map.keep (put4_other hb _ _ _ _), R_put4 h.row hq (by decide) _ _ _ _, h.n1, h.n2⟩
theorem RN.put4 {w0 w : World} {n0 g : Nat} {v : Value} {fi oe ne : Int} {L : List Part3} {Al : Option Addr} {cl : Nat} {l : List S39} (h : RN w0 w n0 g v fi oe ne L Al cl l) {q : Nat} {v0 v1 v2 v3 : Value} (hq : w.heap[q]? = some (.cells #[v0, v1, v2, v3] 27 (0, 0))) (u0 u1 u2 u3 : Value) (ht : Kd.C k39 (H.put4 w q u0 u1 u2 u3) Al l.length l) : RN (H.put4 w q u0 u1 u2 u3) (H.put4 w q u0 u1 u2 u3) n0 g v fi oe ne L Al cl l := by
  have hg : g ≠ q := fun e => by
    have := h.cur
    rw [e, hq] at this
    injection this with this
    injection this with _ h2 _
    exact absurd h2 (by decide)
  exact ⟨Below.refl _ _, (put4_other hg _ _ _ _).trans h.cur, R_put4 h.row hq (by decide) _ _ _ _, ht, h.n1⟩
theorem ctake_one {W0 w0 W : World} {n0 g b r cap : Nat} {fi oe ne tk : Int} {nm : Nat} {T : AT} {xs : List Int} {l : List S39} (h : CN w0 W n0 g b r cap fi oe ne tk nm (addT T 0 fun _ => none) xs) (hk : TakeOk W0 T l.length) (hl : l.length ≤ 1000000) (hx : xs.length = l.length + 1) (hb : ∀ j, j ≤ l.length → xs.getD j 0 = (bh l j : Int)) (hfi : 0 ≤ fi ∧ fi ≤ ne ∧ ne ≤ 1048576 ∧ 0 ≤ oe ∧ oe ≤ 1000000) (htk : 0 ≤ tk ∧ tk ≤ 1000000) (cl at_ : Int) (hcl : 0 ≤ cl ∧ cl ≤ 255) (hat : inI at_) {o : Option (AT × Int)} (ho : rtakeF fi oe ne (partsT T 0) l cl at_ = o) :
    Calls Try.prog 14 #[.pointer (some ⟨g, 0, none⟩), .int .u8 cl, .int .i64 at_] W fun e W' => W.grownBy W' (some g) ∧ e = .returned (.tuple #[(nodeO o).val, .int .i64 (cntO o), .bool o.isSome]) ∧ CN w0 W' n0 g b r cap fi oe ne (if o.isSome then tk + 1 else tk) nm (addT T 0 fun _ => none) xs := by
  have hc := ctake_calls h (fun s T' n hs => by have := hk.map s T' n hs; rw [hx]; exact this) (by omega) hfi htk cl at_ hcl hat
  rw [take_same hk hl hx hb hfi cl at_ hat, ho] at hc
  exact hc.mono fun e W' hp => hp.one
theorem rtake_one {W0 W : World} {n0 g : Nat} {v : Value} {fi oe ne : Int} {T : AT} {Al : Option Addr} {cp : Nat} {l : List S39} (h : RN W W n0 g v fi oe ne (partsT T 0) Al cp l) (hk : TakeOk W0 T l.length) (hW : Below W0.heap.size W0 W) (hcp : l.length ≤ cp) (hl : l.length ≤ 1000000) (hk0 : ∀ t ∈ l, 0 ≤ t.f0) (hsz : sizeT T ≤ 1000000) (hfi : 0 ≤ fi ∧ fi ≤ ne ∧ ne ≤ 1048576 ∧ 0 ≤ oe ∧ oe ≤ 1000000) (cl at_ : Int) (hcl : 0 ≤ cl ∧ cl ≤ 255) (hat : inI at_) {o : Option (AT × Int)} (ho : rtakeF fi oe ne (partsT T 0) l cl at_ = o) :
    Calls Try.prog 15 #[.pointer (some ⟨g, 0, none⟩), .int .u8 cl, .int .i64 at_] W fun e W' => Below W.heap.size W W' ∧ e = .returned (.tuple #[(nodeO o).val, .int .i64 (cntO o), .bool o.isSome]) := by
  have hc := rtake_calls h hcp hl hk0 (fun x hx => ⟨AtT.below hW _ (hk.parts x hx).1, (hk.parts x hx).2⟩) (Nat.le_trans (partsT_len T 0) hsz) (Below.refl _ _) hfi cl at_ hcl hat
  rw [ho] at hc
  exact hc.mono fun e W' hp => hp.one
theorem err_fit {fi oe ne n : Int} {fit : Bool} (h : errN fi oe ne n fit = 0) : fit = true ∧ 0 ≤ fi ∧ fi ≤ oe ∧ fi ≤ ne ∧ oe ≤ n ∧ ne ≤ 1048576 := by
  unfold errN at h
  split at h
  · omega
  · split at h
    · rename_i h1 h2
      exact ⟨h2, by omega⟩
    · omega
end Go.Proofs.Ytghbfjmmjfklfaa.H
