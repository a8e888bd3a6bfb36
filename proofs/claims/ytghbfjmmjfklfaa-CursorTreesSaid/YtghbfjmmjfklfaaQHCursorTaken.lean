/- (*cursor.Cursor).Taken, and what the loop over the questions keeps. -/
import Derived.Test.YtghbfjmmjfklfaaQPureCursor
import Derived.Test.YtghbfjmmjfklfaaQHxglossatorref12Same
set_option linter.unusedVariables false
set_option linter.unusedSimpArgs false
namespace Go.Proofs.Ytghbfjmmjfklfaa.H
open Go.RowKit Go.Proofs.YtghbfjmmjfklfaaW.PrintWords Go.Proofs.YtghbfjmmjfklfaaW.PrintLast Go.Proofs.YtghbfjmmjfklfaaW.PrintMore
set_option maxRecDepth 100000 in
theorem taken_calls {w0 W : World} {n0 g b r cap : Nat} {fi oe ne tk : Int} {nm : Nat} {M : PMap} {xs : List Int} (h : CN w0 W n0 g b r cap fi oe ne tk nm M xs) :
    Calls Try.prog 17 #[.pointer (some ⟨g, 0, none⟩)] W fun e W' => e = .returned (.int .i64 tk) ∧ Below W.heap.size W W' := by
  obtain ⟨c0, c1, c2, c3, c4, c5⟩ := h.cells
  have lg := blk_lt h.cur
  have huc := Try.underlying77
  clear h
  go_enter Try.func17, Try.ntmps17
  go_wp2
  go_ret
  exact ⟨rfl, Below.refl _ _⟩
def nodeO : Option (AT × Int) → AT
  | none => .node 0 0 0 none 0 []
  | some x => x.1
def cntO : Option (AT × Int) → Int
  | none => 0
  | some x => x.2
theorem TakePost.one {w0 W : World} {n0 g b r cap : Nat} {fi oe ne tk : Int} {nm : Nat} {M : PMap} {xs : List Int} {o : Option (AT × Int)} {e : Ending} {W' : World} (h : TakePost w0 W n0 g b r cap fi oe ne tk nm M xs o e W') : W.grownBy W' (some g) ∧ e = .returned (.tuple #[(nodeO o).val, .int .i64 (cntO o), .bool o.isSome]) ∧ CN w0 W' n0 g b r cap fi oe ne (if o.isSome then tk + 1 else tk) nm M xs := by
  obtain ⟨h1, h2⟩ := h
  refine ⟨h1, ?_⟩
  rcases h2 with ⟨rfl, rfl, h⟩ | ⟨T, n, rfl, rfl, h⟩
  · exact ⟨rfl, h⟩
  · exact ⟨rfl, h⟩
theorem RTakePost.one {w0 W : World} {n0 g : Nat} {v : Value} {fi oe ne : Int} {L : List Part3} {Al : Option Addr} {cl : Nat} {l : List S39} {o : Option (AT × Int)} {e : Ending} {W' : World} (h : RTakePost w0 W n0 g v fi oe ne L Al cl l o e W') : Below W.heap.size W W' ∧ e = .returned (.tuple #[(nodeO o).val, .int .i64 (cntO o), .bool o.isSome]) := by
  obtain ⟨h1, h2⟩ := h
  refine ⟨h1, ?_⟩
  rcases h2 with ⟨rfl, rfl⟩ | ⟨T, n, rfl, rfl⟩
  · rfl
  · rfl
theorem RN.now {w0 w : World} {n0 g : Nat} {v : Value} {fi oe ne : Int} {L : List Part3} {Al : Option Addr} {cl : Nat} {l : List S39} (h : RN w0 w n0 g v fi oe ne L Al cl l) : RN w w n0 g v fi oe ne L Al cl l :=
  ⟨Below.refl _ _, h.cur, h.row, h.toks, h.n1⟩
theorem RN.next {w0 w w' : World} {n0 g q : Nat} {v : Value} {fi oe ne : Int} {L : List Part3} {Al : Option Addr} {cl : Nat} {l : List S39} (h : RN w0 w n0 g v fi oe ne L Al cl l) (hg : w.grownBy w' (some q)) (hq : q < n0) (ht : Kd.C k39 w' Al l.length l) : RN w' w' n0 g v fi oe ne L Al cl l :=
  ⟨Below.refl _ _, (hg.block _ (blk_lt h.cur) (fun e => by have := Option.some.inj e; have := h.n1; omega)).trans h.cur, Kd.R_grown h.row hg (fun p hp e => by have := Option.some.inj e; omega), ht, h.n1⟩
mutual
theorem partsT_size : ∀ (T : AT) (at_ : Int), ∀ x ∈ partsT T at_, tsize x.1.erase ≤ tsize T.erase
  | .node k w wd A c kids, at_, x, hx => by
    simp only [partsT] at hx
    by_cases hk : k < 50
    · rw [if_pos hk] at hx; simp at hx
    · rw [if_neg hk] at hx
      rcases List.mem_cons.1 hx with rfl | hx
      · exact Nat.le_refl _
      · have := partsL_size kids at_ x hx
        simp only [AT.erase, tsize]
        omega
theorem partsL_size : ∀ (l : List AT) (at_ : Int), ∀ x ∈ partsL l at_, tsize x.1.erase ≤ lsize (eraseL l)
  | [], at_, x, hx => by simp [partsL] at hx
  | T :: r, at_, x, hx => by
    simp only [partsL, List.mem_append] at hx
    simp only [eraseL, lsize]
    rcases hx with hx | hx
    · have := partsT_size T at_ x hx; omega
    · have := partsL_size r _ x hx; omega
end
theorem rtake_node {W : World} {T : AT} {fi oe ne : Int} {l : List S39} {n : Nat} (hk : TakeOk W T n) (cl at_ : Int) {o : Option (AT × Int)} (ho : rtakeF fi oe ne (partsT T 0) l cl at_ = o) : AtT W (nodeO o) ∧ (tsize (nodeO o).erase ≤ tsize T.erase) := by
  have h0 : AtT W (.node 0 0 0 none 0 []) ∧ (tsize (AT.node 0 0 0 none 0 []).erase ≤ tsize T.erase) := ⟨by simp [AtT], by have := tsize_pos T.erase; simp only [AT.erase, eraseL, tsize, lsize]; omega⟩
  subst ho
  unfold rtakeF
  by_cases h1 : at_ < 0 ∨ (fi ≤ at_ ∧ at_ < ne)
  · rw [if_pos h1]; exact h0
  rw [if_neg h1]
  cases hf : (partsT T 0).find? (hitB cl (if fi ≤ at_ then IntKind.i64.wrap (at_ - ne + oe) else at_)) with
  | none => exact h0
  | some x =>
    simp only
    split
    · exact h0
    · have hx := List.mem_of_find?_eq_some hf
      exact ⟨(hk.parts x hx).1, partsT_size T 0 x hx⟩
theorem toks_self (l : List S39) (h : l.length ≤ 1000000) : Ev (fun n => glossatorref12_Same.f n l l) true := by
  have key : ∀ (m i : Nat), i + m = l.length → Ev (fun n => glossatorref12_Same.l0 n l l (i : Int)) true := by
    intro m
    induction m with
    | zero =>
      intro i hi
      exact Ev.step (f := fun _ => some true) (fun n => by rw [glossatorref12_Same.l0, if_neg (by omega)]) (Ev.now _)
    | succ m ih =>
      intro i hi
      refine Ev.step (fun n => ?_) (ih (i + 1) (by omega))
      rw [glossatorref12_Same.l0, if_pos (by omega), if_pos (by omega), if_pos (by omega), if_neg (by simp), wrap_id (by omega) (by omega)]
      rfl
  have h0 := key l.length 0 (by omega)
  exact Ev.congr (fun n => by unfold glossatorref12_Same.f; rw [if_pos rfl]; rfl) h0
end Go.Proofs.Ytghbfjmmjfklfaa.H
