/- Plain facts beneath the other cache (the document's): its numerals; what is kept; what the two have to do with each other. -/
import Derived.Test.YtaphacgdokhmmaaDoorVHCacheRows
import Derived.Test.YtaphacgdokhmmaaDoorVHxglossatorref25digits
set_option linter.unusedVariables false
set_option linter.unusedSimpArgs false
namespace Go.Proofs.YtaphacgdokhmmaaDoor.H
open Go.RowKit Go.Proofs.YtaphacgdokhmmaaDoorW.PrintWords Go.Proofs.YtaphacgdokhmmaaDoorW.PrintLast Go.Proofs.YtaphacgdokhmmaaDoorW.PrintMore
theorem ba_app (a b : List UInt8) : (⟨a.toArray⟩ : ByteArray) ++ (⟨b.toArray⟩ : ByteArray) = ⟨(a ++ b).toArray⟩ := by
  apply Go.WideShapes.bytes_inj
  simp [ByteArray.data_append]
theorem digit_num (n : Nat) : strOfNums ([(wrap64 (48 + (Int.tmod (n : Int) 10))) % 256] : List Int) = ⟨[UInt8.ofNat (48 + n % 10)].toArray⟩ := by
  have e : (wrap64 (48 + (Int.tmod (n : Int) 10))) % 256 = ((48 + n % 10 : Nat) : Int) := by
    rw [Int.tmod_eq_emod_of_nonneg (by omega)]
    unfold wrap64
    omega
  rw [e]
  unfold strOfNums
  simp only [List.map_cons, List.map_nil, Int.toNat_natCast]
theorem digits_l0 : ∀ (n : Nat) (s : ByteArray), 0 < n → s.size + n ≤ 1000000 → ∃ k, glossatorref25_digits.l0 k (n : Int) s = some ((⟨(Lib.decDigits n).toArray⟩ : ByteArray) ++ s) := by
  intro n
  induction n using Nat.strongRecOn with
  | ind n ih =>
    intro s hn hs
    have e1 : wrap64 (Int.tdiv (n : Int) 10) = ((n / 10 : Nat) : Int) := by
      rw [Int.tdiv_eq_ediv_of_nonneg (by omega)]
      unfold wrap64
      omega
    have hsz : (strOfNums ([(wrap64 (48 + (Int.tmod (n : Int) 10))) % 256] : List Int)).size = 1 := by rw [digit_num]; rfl
    by_cases h : n < 10
    · refine ⟨2, ?_⟩
      simp only [glossatorref25_digits.l0, Option.bind_some]
      rw [if_pos (by omega), if_pos (by rw [hsz]; omega), e1, if_neg (by omega), digit_num, Lib.decDigits, dif_pos h, show n % 10 = n by omega]
    · have hsz2 : (strOfNums ([(wrap64 (48 + (Int.tmod (n : Int) 10))) % 256] : List Int) ++ s).size = 1 + s.size := by rw [ByteArray.size_append, hsz]
      obtain ⟨k, hk⟩ := ih (n / 10) (by omega) (strOfNums ([(wrap64 (48 + (Int.tmod (n : Int) 10))) % 256] : List Int) ++ s) (by omega) (by rw [hsz2]; omega)
      refine ⟨k + 1, ?_⟩
      simp only [glossatorref25_digits.l0, Option.bind_some]
      have hd : Lib.decDigits n = Lib.decDigits (n / 10) ++ [UInt8.ofNat (48 + n % 10)] := by rw [Lib.decDigits, dif_neg h]
      rw [if_pos (by omega), if_pos (by rw [hsz]; omega), e1, hk, digit_num, ← ByteArray.append_assoc, hd, ← ba_app]
theorem digits_dec (n : Nat) (hn : 0 < n) (hs : n ≤ 1000000) : ∃ k, glossatorref25_digits.f k (n : Int) = some (dec (n : Int)) := by
  obtain ⟨k, hk⟩ := digits_l0 n ⟨#[]⟩ hn (by show 0 + n ≤ _; omega)
  refine ⟨k, ?_⟩
  unfold glossatorref25_digits.f
  rw [hk]
  unfold dec
  rw [Lib.itoa_nonneg]
  congr 1
  have := ba_app (Lib.decDigits n) []
  simpa using this
abbrev PutR := ByteArray × ByteArray × List Int × Bool
def kput : Kd PutR := Kd.pair Kd.string (Kd.pair Kd.string (Kd.pair (Kd.slice 3 (Kd.int .i64)) Kd.bool))
def live (u : ByteArray) (x : PutR) : Bool := x.1.toList == u.toList && !x.2.2.2
def keptR (L : List PutR) (u : ByteArray) : List PutR := (L.filter (live u)).drop ((L.filter (live u)).length - 4)
def Says (M : ByteArray → List Res) (L : List PutR) : Prop := ∀ u, M u = (keptR L u).map (fun x => (x.2.1, x.2.2.1))
theorem live_same (u : ByteArray) (id : ByteArray) (l : List Int) : live u (u, id, l, false) = true := by simp [live]
theorem live_other {u v : ByteArray} (h : ¬ u = v) (id : ByteArray) (l : List Int) (g : Bool) : live u (v, id, l, g) = false := by
  simp only [live, Bool.and_eq_false_iff]
  left
  rw [beq_eq_false_iff_ne]
  exact fun e => h (toList_inj e).symm
theorem says_put {M : ByteArray → List Res} {L : List PutR} (h : Says M L) (u id : ByteArray) (l : List Int) : Says (putM M u (id, l)) (L ++ [(u, id, l, false)]) := by
  intro v
  unfold putM keptR
  rw [List.filter_append]
  by_cases e : v = u
  · subst e
    rw [if_pos rfl, h v, show List.filter (live v) [(v, id, l, false)] = [(v, id, l, false)] by rw [List.filter_cons, if_pos (live_same _ _ _)]; rfl]
    have := last4_drop ((L.filter (live v)).map (fun x : PutR => (x.2.1, x.2.2.1))) (id, l)
    unfold keptR
    rw [List.length_map, ← List.map_drop] at this
    rw [this]
    simp [List.map_append, List.map_drop]
  · rw [if_neg e, h v, show List.filter (live v) [(u, id, l, false)] = [] by rw [List.filter_cons, live_other e]; rfl, List.append_nil]
    rfl
def dropR (u : ByteArray) (x : PutR) : PutR := if (x.1.toList == u.toList) = true then (x.1, x.2.1, x.2.2.1, true) else x
theorem says_drop {M : ByteArray → List Res} {L : List PutR} (h : Says M L) (u : ByteArray) : Says (dropM M u) (L.map (dropR u)) := by
  intro v
  unfold dropM keptR
  rw [List.filter_map]
  by_cases e : v = u
  · subst e
    rw [if_pos rfl]
    have : List.filter (live v ∘ dropR v) L = [] := by
      rw [List.filter_eq_nil_iff]
      intro x _
      simp only [Function.comp, dropR]
      split <;> rename_i c <;> simp [live]
      intro c2
      simp [c2] at c
    rw [this]
    rfl
  · rw [if_neg e, h v]
    have hf : List.filter (live v ∘ dropR u) L = List.filter (live v) L := by
      apply List.filter_congr
      intro x _
      simp only [Function.comp, dropR]
      split
      · rename_i c
        have c1 : x.1 = u := toList_inj (beq_iff_eq.1 c)
        have hl : live v x = false := by
          obtain ⟨a, b, c, d⟩ := x
          simp only at c1
          subst c1
          exact live_other e _ _ _
        rw [hl]
        obtain ⟨a, b, c, d⟩ := x
        simp only at c1 ⊢
        subst c1
        exact live_other e _ _ _
      · rfl
    rw [hf]
    unfold keptR
    rw [List.length_map, ← List.map_drop, List.map_map]
    apply List.map_congr_left
    intro x _
    simp only [Function.comp, dropR]
    split <;> rfl
end Go.Proofs.YtaphacgdokhmmaaDoor.H
