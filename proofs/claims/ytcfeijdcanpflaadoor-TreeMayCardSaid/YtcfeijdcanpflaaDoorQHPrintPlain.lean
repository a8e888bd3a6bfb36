/- What tree.Print tells, of lists alone. -/
import Derived.Test.YtcfeijdcanpflaaDoorQHEraseU
import Derived.Test.YtcfeijdcanpflaaDoorQHName
import Derived.Lib.ItoaLen
import Derived.Lib.Repeat
set_option linter.unusedVariables false
set_option linter.unusedSimpArgs false
namespace Go.Proofs.YtcfeijdcanpflaaDoor.H
open Go.RowKit Go.Proofs.YtcfeijdcanpflaaDoorW.PrintWords Go.Proofs.YtcfeijdcanpflaaDoorW.PrintLast Go.Proofs.YtcfeijdcanpflaaDoorW.PrintMore
mutual
/-- No kind and nothing that is missing is greater than the greatest kind. -/
def wantT : S25 → Prop
  | ⟨k, w, wd, kids⟩ => k ≤ 68 ∧ (k = 50 → w ≤ 68) ∧ (k = 50 → wd = 0) ∧ wantL kids
def wantL : List S25 → Prop
  | [] => True
  | t :: r => wantT t ∧ wantL r
end
theorem leafB_want {k w wd : Int} {kids : List S25} (h : leafB k w wd kids = true) (hk : k = 50) : w ≤ 68 := by
  have h1 := leaf_some k w wd kids
  rw [h] at h1
  unfold tree_leaf.f at h1
  split at h1
  · cases h1
  · split at h1
    · unfold lex_Counts.f at h1
      rw [Option.bind_some] at h1
      split at h1
      · rename_i hc
        simp [countsB] at hc
        omega
      · split at h1
        · omega
        · simp at h1
          omega
    · cases h1
mutual
theorem may_want : ∀ (t : S25) (at_ c : Int), (mayN t at_ c).2 = true → wantT t
  | ⟨k, w, wd, kids⟩, at_, c, h => by
    simp only [mayN] at h
    by_cases t1 : wrap64 (c + 1) > 1048576
    · rw [if_pos t1] at h; cases h
    rw [if_neg t1] at h
    by_cases t2 : at_ > 65536
    · rw [if_pos t2] at h; cases h
    rw [if_neg t2] at h
    by_cases t3 : k ≤ 50
    · rw [if_pos t3] at h
      simp only at h
      obtain ⟨rfl, _, _, h0, _⟩ := leafB_facts h
      simp only [wantT, wantL, and_true]
      exact ⟨by omega, leafB_want h, h0⟩
    rw [if_neg t3] at h
    by_cases t4 : k > 68
    · rw [if_pos t4] at h; cases h
    rw [if_neg t4] at h
    by_cases t5 : w = 0
    case neg => rw [if_pos (show w ≠ 0 from t5)] at h; cases h
    rw [if_neg (show ¬ (w ≠ 0) from fun h => h t5)] at h
    by_cases t6 : k = 51 ∧ at_ > 1
    · rw [if_pos t6] at h; cases h
    rw [if_neg t6] at h
    revert h
    cases hm : mayL kids at_ (wrap64 (c + 1)) 0 with
    | mk c' o =>
      cases o with
      | none => intro h; cases h
      | some s =>
        intro h
        simp only [wantT]
        exact ⟨by omega, fun h => absurd h (by omega), fun h => absurd h (by omega), mayL_want kids at_ _ 0 c' s hm⟩
theorem mayL_want : ∀ (l : List S25) (at_ c sum c' s : Int), mayL l at_ c sum = (c', some s) → wantL l
  | [], at_, c, sum, c', s, _ => by simp only [wantL]
  | t :: r, at_, c, sum, c', s, h => by
    simp only [mayL] at h
    cases hm : mayN t (wrap64 (at_ + 1)) c with
    | mk c2 b =>
      rw [hm] at h
      cases b with
      | false => simp at h
      | true =>
        simp only at h
        simp only [wantL]
        exact ⟨may_want t (wrap64 (at_ + 1)) c (by rw [hm]), mayL_want r at_ c2 _ c' s h⟩
end
theorem ok_want {t : S25} (h : okB t = true) : wantT t := may_want t 1 0 h
def inr (x : Int) : Prop := -9223372036854775808 ≤ x ∧ x ≤ 9223372036854775807
theorem inr_wrap (x : Int) : inr (wrap64 x) := by unfold inr wrap64; omega
mutual
theorem preT_want : ∀ (t : S25) (f d : Int) (x : S25 × Int × Int), x ∈ preT t f d → inr f → 0 ≤ d → d + tsize t ≤ 4000000 → wantT t → byteT t → (x.1.f0 ≤ 68 ∧ (x.1.f0 = 50 → x.1.f1 ≤ 68) ∧ 0 ≤ x.1.f0 ∧ 0 ≤ x.1.f1) ∧ inr x.2.1 ∧ 0 ≤ x.2.2 ∧ x.2.2 < d + tsize t
  | ⟨k, w, wd, l⟩, f, d, x, h, hf, hd, hs, hw, hb => by
    simp only [preT, List.mem_cons] at h
    simp only [wantT] at hw
    simp only [byteT] at hb
    simp only [tsize] at hs ⊢
    rcases h with rfl | h
    · exact ⟨⟨hw.1, hw.2.1, hb.1.1, hb.2.1.1⟩, hf, hd, by simp only; omega⟩
    · have := preTL_want l f d x h hf hd (by omega) hw.2.2.2 hb.2.2
      exact ⟨this.1, this.2.1, this.2.2.1, by omega⟩
theorem preTL_want : ∀ (l : List S25) (f d : Int) (x : S25 × Int × Int), x ∈ preTL l f d → inr f → 0 ≤ d → d + lsize l ≤ 3999999 → wantL l → byteL l → (x.1.f0 ≤ 68 ∧ (x.1.f0 = 50 → x.1.f1 ≤ 68) ∧ 0 ≤ x.1.f0 ∧ 0 ≤ x.1.f1) ∧ inr x.2.1 ∧ 0 ≤ x.2.2 ∧ x.2.2 < d + 1 + lsize l
  | [], f, d, x, h, _, _, _, _, _ => by simp [preTL] at h
  | t :: r, f, d, x, h, hf, hd, hs, hw, hb => by
    simp only [preTL, List.mem_append] at h
    simp only [wantL] at hw
    simp only [byteL] at hb
    simp only [lsize] at hs ⊢
    have hwr : wrap64 (d + 1) = d + 1 := wrap_id (by omega) (by omega)
    rcases h with h | h
    · rw [hwr] at h
      have := preT_want t f (d + 1) x h hf (by omega) (by omega) hw.1 hb.1
      exact ⟨this.1, this.2.1, this.2.2.1, by omega⟩
    · have := preTL_want r _ d x h (inr_wrap _) hd (by omega) hw.2 hb.2
      exact ⟨this.1, this.2.1, this.2.2.1, by omega⟩
end
theorem allT_want {t : S25} (hb : byteT t) (hs : tsize t ≤ 2000000) {x : S25 × Int × Int} (h : x ∈ allT t) : (x.1.f0 ≤ 68 ∧ (x.1.f0 = 50 → x.1.f1 ≤ 68) ∧ 0 ≤ x.1.f0 ∧ 0 ≤ x.1.f1) ∧ inr x.2.1 ∧ 0 ≤ x.2.2 ∧ x.2.2 < 2000000 := by
  unfold allT at h
  cases ho : okB t with
  | false => rw [ho] at h; simp at h
  | true =>
    rw [ho, if_pos rfl] at h
    have := preT_want t 0 0 x h ⟨by omega, by omega⟩ (by omega) (by omega) (ok_want ho) hb
    exact ⟨this.1, this.2.1, this.2.2.1, by omega⟩
def nameB (k : Int) : ByteArray := NAMES.getD k.toNat ByteArray.empty
theorem nameB_size (k : Int) : (nameB k).size ≤ 10 := by
  unfold nameB
  by_cases hk : k.toNat < NAMES.length
  · rw [List.getD_eq_getElem?_getD, List.getElem?_eq_getElem hk]
    have h : NAMES.all (fun b => b.size ≤ 10) = true := by decide +kernel
    simpa using List.all_eq_true.1 h _ (List.getElem_mem hk)
  · rw [List.getD_eq_getElem?_getD, List.getElem?_eq_none (by omega)]
    decide
def itoaB (n : Int) : ByteArray := ⟨(Lib.itoa n).toArray⟩
def wordB (k w : Int) : ByteArray := if k = 50 then ⟨#[63]⟩ ++ nameB w else nameB k
def spanB (f t : Int) : ByteArray := ⟨#[32]⟩ ++ itoaB f ++ ⟨#[45]⟩ ++ itoaB t ++ ⟨#[10]⟩
def lineT (x : S25 × Int × Int) : List UInt8 := Lib.repeatL [32] x.2.2.toNat ++ (wordB x.1.f0 x.1.f1).data.toList ++ (spanB x.2.1 (wrap64 (x.2.1 + x.1.f2))).data.toList
def linesT (xs : List (S25 × Int × Int)) : List UInt8 := (xs.map lineT).flatten
theorem linesT_snoc (xs : List (S25 × Int × Int)) (x : S25 × Int × Int) : linesT (xs ++ [x]) = linesT xs ++ lineT x := by simp [linesT]
def printT (t : S25) : ByteArray × Int := if okB t then (if (linesT (allT t)).length > 1048576 then (⟨#[]⟩, 3) else (⟨(linesT (allT t)).toArray⟩, 0)) else (⟨#[]⟩, 150)
end Go.Proofs.YtcfeijdcanpflaaDoor.H
