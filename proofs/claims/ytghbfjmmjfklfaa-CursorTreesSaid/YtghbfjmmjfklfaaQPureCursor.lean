/- What a cursor takes is what the document's takes. -/
import Derived.Test.YtghbfjmmjfklfaaQHRefCursorTake
set_option linter.unusedVariables false
set_option linter.unusedSimpArgs false
namespace Go.Proofs.Ytghbfjmmjfklfaa.H
open Go.RowKit Go.Proofs.YtghbfjmmjfklfaaW.PrintWords Go.Proofs.YtghbfjmmjfklfaaW.PrintLast Go.Proofs.YtghbfjmmjfklfaaW.PrintMore
mutual
theorem partsT_zero : ∀ (T : AT) (at_ : Int), cntT T = 0 → ∀ x ∈ partsT T at_, x.2.2 = 0
  | .node k w wd A c kids, at_, h, x, hx => by
    simp only [cntT] at h
    simp only [partsT] at hx
    by_cases hk : k < 50
    · rw [if_pos hk] at h; omega
    · rw [if_neg hk] at h hx
      rcases List.mem_cons.1 hx with rfl | hx
      · exact h
      · exact partsL_zero kids at_ h x hx
theorem partsL_zero : ∀ (l : List AT) (at_ : Int), cntL l = 0 → ∀ x ∈ partsL l at_, x.2.2 = 0
  | [], at_, h, x, hx => by simp [partsL] at hx
  | T :: r, at_, h, x, hx => by
    have h1 := cntT_le T
    have h2 := cntL_le r
    simp only [cntL] at h
    simp only [partsL, List.mem_append] at hx
    rcases hx with hx | hx
    · exact partsT_zero T at_ (by omega) x hx
    · exact partsL_zero r _ (by omega) x hx
end
mutual
theorem partsT_at : ∀ (T : AT) (at_ : Int), ∀ x ∈ partsT T at_, at_ ≤ x.2.1 ∧ 0 ≤ x.2.2 ∧ x.2.1 + x.2.2 ≤ at_ + cntT T
  | .node k w wd A c kids, at_, x, hx => by
    have h1 := cntL_le kids
    simp only [partsT] at hx
    simp only [cntT]
    by_cases hk : k < 50
    · rw [if_pos hk] at hx; simp at hx
    · rw [if_neg hk] at hx ⊢
      rcases List.mem_cons.1 hx with rfl | hx
      · simp only; omega
      · exact partsL_at kids at_ x hx
theorem partsL_at : ∀ (l : List AT) (at_ : Int), ∀ x ∈ partsL l at_, at_ ≤ x.2.1 ∧ 0 ≤ x.2.2 ∧ x.2.1 + x.2.2 ≤ at_ + cntL l
  | [], at_, x, hx => by simp [partsL] at hx
  | T :: r, at_, x, hx => by
    have h1 := cntT_le T
    have h2 := cntL_le r
    simp only [cntL]
    simp only [partsL, List.mem_append] at hx
    rcases hx with hx | hx
    · have := partsT_at T at_ x hx; omega
    · have := partsL_at r _ x hx; omega
end
mutual
theorem partsT_mem {W : World} : ∀ (T : AT) (at_ : Int), AtT W T → ∀ x ∈ partsT T at_, AtT W x.1
  | .node k w wd A c kids, at_, h, x, hx => by
    simp only [partsT] at hx
    by_cases hk : k < 50
    · rw [if_pos hk] at hx; simp at hx
    · rw [if_neg hk] at hx
      rcases List.mem_cons.1 hx with rfl | hx
      · exact h
      · simp only [AtT] at h
        rcases h.2.2 with e | ⟨ad, _, hl⟩
        · subst e; simp [partsL] at hx
        · exact partsL_mem kids at_ ad 0 hl x hx
theorem partsL_mem {W : World} : ∀ (l : List AT) (at_ : Int) (ad : Addr) (i : Nat), AtL W ad i l → ∀ x ∈ partsL l at_, AtT W x.1
  | [], at_, ad, i, h, x, hx => by simp [partsL] at hx
  | T :: r, at_, ad, i, h, x, hx => by
    simp only [AtL] at h
    simp only [partsL, List.mem_append] at hx
    rcases hx with hx | hx
    · exact partsT_mem T at_ h.1.2 x hx
    · exact partsL_mem r _ ad (i + 1) h.2 x hx
end
def orP (o : Option (AT × Int)) (p : Option Part3) : Option (AT × Int) := match o with | some v => some v | none => p.map fun x => (x.1, x.2.2)
theorem find_none {cl a : Int} {L : List Part3} (h : ∀ x ∈ L, x.2.2 = 0) : L.find? (hitB cl a) = none := by
  rw [List.find?_eq_none]
  intro x hx
  simp [hitB, h x hx]
mutual
theorem addT_look : ∀ (T : AT) (at_ : Int) (M : PMap) (cl a : Int), addT T at_ M (cl, a) = orP (M (cl, a)) ((partsT T at_).find? (hitB cl a))
  | .node k w wd A c kids, at_, M, cl, a => by
    simp only [addT, partsT]
    by_cases hk : k < 50
    · rw [if_pos hk, if_pos hk]
      unfold orP
      cases M (cl, a) <;> rfl
    rw [if_neg hk, if_neg hk]
    have ih := addL_look kids at_ (setM M (ahN k at_ M) at_ (some nilA)) cl a
    by_cases hh : a = at_ ∧ cl ∈ ahN k at_ M
    · obtain ⟨rfl, hc⟩ := hh
      have hc2 := hc
      unfold ahN at hc2
      rw [List.mem_filter] at hc2
      have hM : M (cl, a) = none := by simpa using hc2.2
      rw [setM]
      simp only []
      rw [if_pos ⟨trivial, hc⟩, hM]
      unfold orP
      by_cases h0 : cntL kids = 0
      · rw [if_pos h0, find_none]
        · rfl
        · intro x hx
          rcases List.mem_cons.1 hx with rfl | hx
          · exact h0
          · exact partsL_zero kids a h0 x hx
      · rw [if_neg h0, List.find?_cons_of_pos (by simp [hitB, h0, AT.k, hc2.1])]
        rfl
    · rw [setM]
      simp only []
      rw [if_neg hh, ih, setM]
      simp only []
      rw [if_neg hh]
      cases hM : M (cl, a) with
      | some v => rfl
      | none =>
        unfold orP
        rw [List.find?_cons_of_neg]
        intro hb
        simp only [hitB, AT.k, Bool.and_eq_true, decide_eq_true_eq] at hb
        obtain ⟨⟨hb1, hb2⟩, hb3⟩ := hb
        subst hb2
        exact hh ⟨rfl, by unfold ahN; rw [List.mem_filter]; exact ⟨by first | exact hb3 | exact of_decide_eq_true hb3, by rw [hM]; rfl⟩⟩
theorem addL_look : ∀ (l : List AT) (at_ : Int) (M : PMap) (cl a : Int), addL l at_ M (cl, a) = orP (M (cl, a)) ((partsL l at_).find? (hitB cl a))
  | [], at_, M, cl, a => by
    simp only [addL, partsL]
    unfold orP
    cases M (cl, a) <;> rfl
  | T :: r, at_, M, cl, a => by
    simp only [addL, partsL]
    rw [addL_look r _ _ cl a, addT_look T at_ M cl a, List.find?_append]
    unfold orP
    cases M (cl, a) with
    | some v => rfl
    | none => cases (partsT T at_).find? (hitB cl a) <;> rfl
end
mutual
/-- How many leaves hold a token. -/
theorem cnt_pre : ∀ (T : AT) (f d : Int), goodT T.erase → (((preT T.erase f d).countP fun x => decide (x.1.f0 < 50) : Nat) : Int) = cntT T
  | .node k w wd A c kids, f, d, h => by
    simp only [AT.erase, goodT] at h
    simp only [AT.erase, preT, cntT, List.countP_cons]
    have ih := cnt_preL kids f d h.2.2.2.2
    by_cases hk : k < 50
    · have hn := h.2.1 (by omega)
      have hn2 : kids = [] := by
        have := eraseL_length kids
        rw [hn] at this
        exact List.length_eq_zero_iff.1 this.symm
      subst hn2
      simp [hk, eraseL, preTL]
    · rw [if_neg hk]
      simp [hk]
      exact ih
theorem cnt_preL : ∀ (l : List AT) (f d : Int), goodL (eraseL l) → (((preTL (eraseL l) f d).countP fun x => decide (x.1.f0 < 50) : Nat) : Int) = cntL l
  | [], f, d, h => by simp [eraseL, preTL, cntL]
  | T :: r, f, d, h => by
    simp only [eraseL, goodL] at h
    simp only [eraseL, preTL, cntL, List.countP_append]
    have h1 := cnt_pre T f (wrap64 (d + 1)) h.1
    have h2 := cnt_preL r (wrap64 (f + T.erase.f2)) d h.2
    omega
end
theorem filt_count (xs : List (S27 × Int × Int)) : (filt (leavesS xs)).length = xs.countP fun x => decide (x.1.f0 < 50) := by
  induction xs with
  | nil => rfl
  | cons x r ih =>
    unfold leavesS filt at ih ⊢
    rw [List.countP_cons, ← ih, List.filter_cons]
    by_cases h1 : x.1.f0 ≤ 50
    · rw [if_pos (decide_eq_true h1), List.map_cons, List.filter_cons]
      by_cases h2 : x.1.f0 = 50
      · simp [h2]
      · have h3 : x.1.f0 < 50 := by omega
        simp [h2, h3]
    · rw [if_neg (by simpa using h1)]
      have h3 : ¬ x.1.f0 < 50 := by omega
      simp [h3]
theorem cnt_fits (T : AT) (hb : byteT T.erase) (l : List S39) (h : fitsT T.erase l = true) : cntT T = l.length := by
  unfold fitsT fitsB at h
  simp only [Bool.and_eq_true, decide_eq_true_eq] at h
  obtain ⟨ho, hl, _⟩ := h
  rw [filt_count] at hl
  unfold allT at hl
  rw [if_pos ho] at hl
  have := cnt_pre T 0 0 (ok_good _ hb ho)
  omega
structure TakeOk (W : World) (T : AT) (n : Nat) : Prop where
  parts : ∀ x ∈ partsT T 0, AtT W x.1 ∧ 0 ≤ x.2.1 ∧ 0 ≤ x.2.2 ∧ x.2.1 + x.2.2 ≤ n
  map : ∀ s T' m, addT T 0 (fun _ => none) s = some (T', m) → 0 ≤ m ∧ 0 ≤ s.2 ∧ s.2 + m < (n + 1 : Nat)
theorem orP_none {p : Option Part3} : orP none p = p.map fun x => (x.1, x.2.2) := rfl
theorem take_ok {W : World} {T : AT} {n : Nat} (h : AtT W T) (hn : cntT T = n) : TakeOk W T n := by
  have hp : ∀ x ∈ partsT T 0, AtT W x.1 ∧ 0 ≤ x.2.1 ∧ 0 ≤ x.2.2 ∧ x.2.1 + x.2.2 ≤ n := fun x hx => by
    have := partsT_at T 0 x hx
    exact ⟨partsT_mem T 0 h x hx, by omega, by omega, by omega⟩
  refine ⟨hp, fun s T' m hs => ?_⟩
  obtain ⟨cl, a⟩ := s
  rw [addT_look, orP_none] at hs
  cases hf : (partsT T 0).find? (hitB cl a) with
  | none => rw [hf] at hs; cases hs
  | some x =>
    rw [hf] at hs
    simp only [Option.map_some, Option.some.injEq, Prod.mk.injEq] at hs
    have hx := hp x (List.mem_of_find?_eq_some hf)
    have hb := List.find?_some hf
    simp only [hitB, Bool.and_eq_true, decide_eq_true_eq] at hb
    obtain ⟨⟨_, hb2⟩, _⟩ := hb
    simp only
    omega
theorem take_same {W : World} {T : AT} {l : List S39} (hk : TakeOk W T l.length) (hl : l.length ≤ 1000000) {xs : List Int} (hx : xs.length = l.length + 1) (hb : ∀ j, j ≤ l.length → xs.getD j 0 = (bh l j : Int)) {fi oe ne : Int} (hfi : 0 ≤ fi ∧ fi ≤ ne ∧ ne ≤ 1048576 ∧ 0 ≤ oe ∧ oe ≤ 1000000) (cl at_ : Int) (hat : inI at_) :
    takeF fi oe ne (addT T 0 fun _ => none) xs cl at_ = rtakeF fi oe ne (partsT T 0) l cl at_ := by
  unfold inI at hat
  unfold takeF rtakeF
  by_cases h1 : at_ < 0
  · rw [if_pos h1, if_pos (.inl h1)]
  rw [if_neg h1]
  by_cases h2 : fi ≤ at_
  · rw [if_pos h2, if_pos h2]
    by_cases h3 : at_ < ne
    · rw [if_pos (.inl h3), if_pos (.inr ⟨h2, h3⟩)]
    rw [if_neg (show ¬ (at_ < 0 ∨ fi ≤ at_ ∧ at_ < ne) by omega)]
    have hno : ∀ a, (a < 0 ∨ (l.length : Int) < a) → (partsT T 0).find? (hitB cl a) = none := by
      intro a ha
      rw [List.find?_eq_none]
      intro x hx hh
      have := hk.parts x hx
      simp only [hitB, Bool.and_eq_true, decide_eq_true_eq] at hh
      obtain ⟨⟨_, hh2⟩, _⟩ := hh
      omega
    by_cases h4 : (xs.length : Int) < at_ - ne
    · rw [if_pos (.inr h4), hno]
      by_cases h5 : at_ - ne + oe ≤ 9223372036854775807
      · rw [IntWalk.i64_in _ ⟨by omega, by omega⟩]
        right; omega
      · left
        rw [IntKind.wrap_i64]
        omega
    · rw [if_neg (by omega), IntWalk.i64_in _ ⟨by omega, by omega⟩, addT_look, orP_none]
      cases (partsT T 0).find? (hitB cl (at_ - ne + oe)) with
      | none => rfl
      | some x => simp only [Option.map_some]; rw [if_neg (by omega)]
  · rw [if_neg h2, if_neg h2, if_neg (by omega), addT_look, orP_none]
    cases hf : (partsT T 0).find? (hitB cl at_) with
    | none => rfl
    | some x =>
      have hxm := hk.parts x (List.mem_of_find?_eq_some hf)
      have hh := List.find?_some hf
      simp only [hitB, Bool.and_eq_true, decide_eq_true_eq] at hh
      obtain ⟨⟨_, hh2⟩, _⟩ := hh
      simp only [Option.map_some]
      rw [hb _ (by omega), hh2]
      by_cases h5 : fi ≤ (bh l (at_ + x.2.2).toNat : Int)
      · rw [if_pos h5, if_pos ⟨by omega, h5⟩]
      · rw [if_neg h5, if_neg (fun h => h5 h.2)]
end Go.Proofs.Ytghbfjmmjfklfaa.H
