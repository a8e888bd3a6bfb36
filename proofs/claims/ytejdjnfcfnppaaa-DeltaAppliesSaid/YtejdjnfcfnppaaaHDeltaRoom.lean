/- Lists with room behind: what they read as, rows that may be written up to their capacity, splices with lists that have room. -/
import Derived.Test.YtejdjnfcfnppaaaHDeltaLent
set_option linter.unusedVariables false
set_option linter.unusedSimpArgs false
namespace Go.Proofs.Ytejdjnfcfnppaaa.H
open Go.RowKit Go.Proofs.YtejdjnfcfnppaaaW.PrintWords Go.Proofs.YtejdjnfcfnppaaaW.PrintLast Go.Proofs.YtejdjnfcfnppaaaW.PrintMore

/-- What a list with room behind reads as. -/
theorem C_front {W : World} {A : Option Addr} {l : List Int} (h : Kd.C (Kd.int .i64) W A (l.length + 2) (l ++ [77, 77])) : Kd.C (Kd.int .i64) W A l.length l := by
  have := ReadsOf.take_ (Kd.reads_of_C (enc := Value.int .i64) (d := 0) h) l.length (by omega)
  rw [List.take_left' rfl] at this
  exact Kd.C_of_reads this
theorem C_room {W : World} {base c : Nat} {A : Option Addr} {l : List Int} (h : Kd.R (Kd.int .i64) 3 W base (fun _ => True) (.slice A (l.length + 2) c) (l ++ [77, 77])) : Kd.C (Kd.int .i64) W A (l.length + 2) (l ++ [77, 77]) ∧ l.length + 2 ≤ c := by
  obtain ⟨h1, h2, h3⟩ := Kd.R_reads' h
  rw [show (l ++ [(77 : Int), 77]).length = l.length + 2 by simp] at h3
  exact ⟨h3, h2⟩

/-- A row that may be written up to its capacity. -/
def Rows3 (base : Nat) (W : World) (A : Option Addr) (cap : Nat) : Prop := cap = 0 ∨ ∃ g cur, A = some ⟨g, 0, none⟩ ∧ base ≤ g ∧ W.heap[g]? = some (.cells cur 3 (0, 0)) ∧ cap ≤ cur.size
theorem Rows3.of_R {W : World} {base n c : Nat} {ok : Nat → Prop} {A : Option Addr} {l : List Int} (h : Kd.R (Kd.int .i64) 3 W base ok (.slice A n c) l) : Rows3 base W A c ∧ c ≤ 9223372036854775807 := by
  have ho := Kd.own_of_R (h1 := fun _ => rfl) h
  rcases ho.2 with ⟨hv, _⟩ | ⟨g, cap, cur, hv, hb, hh, _, hm, hs, _⟩
  · injection hv with h1 h2 h3
    exact ⟨.inl h3, by omega⟩
  · injection hv with h1 h2 h3
    subst h3
    simp only [maxLen] at hm
    exact ⟨.inr ⟨g, cur, h1, hb, hh, by omega⟩, by omega⟩
theorem Rows3.below {W W1 : World} {base c : Nat} {A : Option Addr} (h : Rows3 base W A c) (hb : Below W.heap.size W W1) : Rows3 base W1 A c := by
  rcases h with h | ⟨g, cur, h1, h2, h3, h4⟩
  · exact .inl h
  · exact .inr ⟨g, cur, h1, h2, blk_below h3 hb, h4⟩


/-- A list with room behind, as a kind: the cell tells the list, the row behind it more. -/
def cutS : Kd (List Int) where
  sz := 1
  E := (Kd.slice 3 (Kd.int .i64)).E
  K := fun w xs cs => ∃ A c, cs = [.slice A xs.length c] ∧ (Kd.slice 3 (Kd.int .i64)).K w (xs ++ [77, 77]) [.slice A (xs.length + 2) c]
  M := fun w base ok xs cs => ∃ A c, cs = [.slice A xs.length c] ∧ (Kd.slice 3 (Kd.int .i64)).M w base ok (xs ++ [77, 77]) [.slice A (xs.length + 2) c]
  K_len := by
    rintro w x cs ⟨A, c, rfl, _⟩
    rfl
  K_one := by
    rintro w x cs ⟨A, c, rfl, _⟩ u hu
    rw [List.mem_singleton.1 hu]
    rfl
  K_below := by
    rintro w w1 x cs hb ⟨A, c, rfl, h⟩
    exact ⟨A, c, rfl, (Kd.slice 3 (Kd.int .i64)).K_below hb h⟩
  K_of_M := by
    rintro w base ok x cs ⟨A, c, rfl, h⟩
    exact ⟨A, c, rfl, (Kd.slice 3 (Kd.int .i64)).K_of_M h⟩
  M_mono := by
    rintro w base ok ok' x cs hok ⟨A, c, rfl, h⟩
    exact ⟨A, c, rfl, (Kd.slice 3 (Kd.int .i64)).M_mono hok h⟩
  M_bound := by
    rintro w base ok x cs ⟨A, c, rfl, h⟩
    exact ⟨A, c, rfl, (Kd.slice 3 (Kd.int .i64)).M_bound h⟩
  M_move := by
    rintro w w1 base ok x cs hm ⟨A, c, rfl, h⟩
    exact ⟨A, c, rfl, (Kd.slice 3 (Kd.int .i64)).M_move hm h⟩
  M_lower := by
    rintro w base base' ok x cs hb ⟨A, c, rfl, h⟩
    exact ⟨A, c, rfl, (Kd.slice 3 (Kd.int .i64)).M_lower hb h⟩
/-- A splice whose list has room behind. -/
def kL : Kd S27 := Kd.iso (Kd.pair (Kd.int .i64) (Kd.pair (Kd.int .i64) cutS)) (fun x : S27 => (x.f0, x.f1, x.f2))
theorem kL_open {w : World} {x : S27} {cs : List Value} (h : kL.K w x cs) : ∃ A2 c2, cs = [.int .i64 x.f0, .int .i64 x.f1, .slice A2 x.f2.length c2] ∧ x.f2.length + 2 ≤ c2 ∧ (Kd.int .i64).C w A2 (x.f2.length + 2) (x.f2 ++ [77, 77]) := by
  obtain ⟨_, _, rfl, rfl, ⟨_, _, rfl, rfl, ⟨A2, c2, rfl, ⟨A3, c3, e, l2, g2⟩⟩⟩⟩ := h
  simp only [List.cons.injEq, Value.slice.injEq, and_true] at e
  obtain ⟨rfl, e2, rfl⟩ := e
  rw [show (x.f2 ++ [(77 : Int), 77]).length = x.f2.length + 2 by simp] at l2 g2
  exact ⟨A2, c2, rfl, l2, g2⟩
theorem kL_mkM (w : World) (base : Nat) (ok : Nat → Prop) (x : S27) {A : Option Addr} {c : Nat} (g2 : (Kd.int .i64).R 3 w base ok (.slice A (x.f2.length + 2) c) (x.f2 ++ [77, 77])) : kL.M w base ok x [.int .i64 x.f0, .int .i64 x.f1, .slice A x.f2.length c] :=
  ⟨[.int .i64 x.f0], [.int .i64 x.f1, .slice A x.f2.length c], rfl, rfl, ⟨[.int .i64 x.f1], [.slice A x.f2.length c], rfl, rfl, ⟨A, c, rfl, ⟨_, rfl, g2⟩⟩⟩⟩
theorem kL_k27 {w : World} {A : Option Addr} {n : Nat} {xs : List S27} (h : kL.C w A n xs) : k27.C w A n xs :=
  Kd.C_imp (d := kL) (d' := k27) rfl (fun w x cs h => by
    obtain ⟨A2, c2, rfl, h1, h2⟩ := kL_open h
    exact k27_mk w x (by omega) (C_front h2)) h
theorem at_L {w : World} {A : Option Addr} {n : Nat} {xs : List S27} (h : Kd.C kL w A n xs) (i : Int) (h0 : 0 ≤ i) (h1 : i < n) : ∃ ad A2 c2, A = some ad ∧ w.cell? (ad.add (i.toNat * 3)) = some (.int .i64 (rd_T27 xs i).f0) ∧ w.cell? ⟨(ad.add (i.toNat * 3)).block, (ad.add (i.toNat * 3)).off + 1, none⟩ = some (.int .i64 (rd_T27 xs i).f1) ∧ w.cell? ⟨(ad.add (i.toNat * 3)).block, (ad.add (i.toNat * 3)).off + 2, none⟩ = some (.slice A2 (rd_T27 xs i).f2.length c2) ∧ (rd_T27 xs i).f2.length + 2 ≤ c2 ∧ (Kd.int .i64).C w A2 ((rd_T27 xs i).f2.length + 2) ((rd_T27 xs i).f2 ++ [77, 77]) := by
  obtain ⟨ad, c, e, _, hK, hc0⟩ := Kd.C_get h z27 i h0 h1
  have hc : ∀ j u, c[j]? = some u → w.cell? (ad.add (i.toNat * 3 + j)) = some u := hc0
  obtain ⟨A2, c2, rfl, l2, g2⟩ := kL_open hK
  exact ⟨ad, A2, c2, e, hc 0 _ rfl, by rw [← add_field _ _ 1 (by omega)]; exact hc 1 _ rfl, by rw [← add_field _ _ 2 (by omega)]; exact hc 2 _ rfl, l2, g2⟩
end Go.Proofs.Ytejdjnfcfnppaaa.H
