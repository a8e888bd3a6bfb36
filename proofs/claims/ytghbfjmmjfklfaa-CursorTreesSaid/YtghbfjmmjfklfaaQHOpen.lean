/- From how an argument reads as data to how it reads as a list of values: whole numbers, strings, slices (with the bound that their weight gives). -/
import Derived.Test.YtghbfjmmjfklfaaQW
import Derived.Deep.Slices
import Derived.SizedLaws
import Derived.ProofKit
set_option linter.unusedVariables false
set_option linter.unusedSimpArgs false
namespace Go.Proofs.YtghbfjmmjfklfaaW.PrintWords
open Go.ChangeShapes Go.WideShapes
def Opens {α : Type} (d : Kd α) (P : Program) (e : TypeId) (p : α → Prop) : Prop :=
  d.sz = P.cellsOf e ∧ ∀ (H : Type) (enc : TypeId × Value → H) (w : World) (base : Nat) (spare : Nat → Bool) (held : Bool) (fuel : Nat) (cs : List Value) (x : DataW H × List MemPlace),
    DataW.trod enc P w base spare held fuel e cs = some x → (∀ n ∈ x.1.weights P e, n ≤ reachBytes) → ∃ y : α, d.K w y cs ∧ p y
theorem opens_int {P : Program} {e : TypeId} {k : IntKind} (he : P.underlying e = some (.int k)) (hc : P.cellsOf e = 1) : Opens (Kd.int k) P e (fun n => (Lit.int k n).wf = true) :=
  ⟨hc.symm, fun H enc w base spare held fuel cs x h _ => by
    obtain ⟨n, rfl, _, hw⟩ := DataW.trod_int he h
    exact ⟨n, rfl, hw⟩⟩
theorem weightsAll_range {H : Type} {P : Program} {e : TypeId} {n i : Nat} (D : Nat → DataW H) (hi : i < n) {m : Nat} (hm : m ∈ (D i).weights P e) : m ∈ DataW.weightsAll P e ((List.range n).map D) := by
  have key : ∀ (l : List (DataW H)) (d : DataW H), d ∈ l → m ∈ d.weights P e → m ∈ DataW.weightsAll P e l := by
    intro l
    induction l with
    | nil => intro d hd; cases hd
    | cons a r ih =>
      intro d hd hm
      simp only [DataW.weightsAll, List.mem_append]
      rcases List.mem_cons.1 hd with rfl | hd
      · exact .inl hm
      · exact .inr (ih d hd hm)
  exact key _ (D i) (List.mem_map.2 ⟨i, List.mem_range.2 hi, rfl⟩) hm
theorem opens_row {α : Type} [Inhabited α] {d : Kd α} {P : Program} {t e : TypeId} {p : α → Prop} {B : Nat} (ht : P.underlying t = some (.slice e)) (hB : P.bytesOf e = B) (hd : Opens d P e p)
    {H : Type} {enc : TypeId × Value → H} {w : World} {base : Nat} {spare : Nat → Bool} {held : Bool} {fuel : Nat} {cs : List Value} {x : DataW H × List MemPlace}
    (h : DataW.trod enc P w base spare held fuel t cs = some x) (hz : ∀ n ∈ x.1.weights P t, n ≤ reachBytes) :
    ∃ A c, ∃ l : List α, cs = [.slice A l.length c] ∧ l.length ≤ c ∧ d.C w A l.length l ∧ l.length * B ≤ 140737488351232 ∧ ∀ y ∈ l, p y := by
  rcases Deep.open_slice ht h with ⟨rfl, _⟩ | ⟨a, len, cap, m, n, D, Pl, rfl, hb, hl, hm, hmm, rfl, hx⟩
  · exact ⟨none, 0, [], rfl, Nat.le_refl _, ⟨rfl, by simp, fun h => absurd h (by simp)⟩, by simp, by simp⟩
  · have hle : len ≤ m := by rw [hmm]; split <;> omega
    have hel : ∀ i, i < len → ∃ y : α, p y ∧ ∃ c : List Value, c.length = d.sz ∧ d.K w y c ∧ ∀ j u, c[j]? = some u → w.cell? (a.add (i * d.sz + j)) = some u := by
      intro i hi
      obtain ⟨c, hc, htr⟩ := hx i (by omega)
      obtain ⟨y, hK, hp⟩ := hd.2 H enc w base spare held n c _ htr (fun q hq => hz q (by
        simp only [DataW.weights, ht, List.mem_cons, List.mem_append]
        exact .inr (.inl (weightsAll_range D hi hq))))
      refine ⟨y, hp, c, d.K_len hK, hK, fun j u hu => ?_⟩
      obtain ⟨_, hlen, hcell⟩ := World.cells?_some hc
      have := hcell j (by rw [← hlen]; exact (List.getElem?_eq_some_iff.1 hu).1)
      rw [Deep.add_add, ← hd.1] at this
      rw [this, hu]
    obtain ⟨f, hf⟩ := Deep.choose_lt hel
    refine ⟨some a, cap, (List.range len).map f, by simp, by simpa using hl, ⟨rfl, by simp only [List.length_map, List.length_range]; simp only [maxLen] at hm; omega, fun _ => ⟨a, rfl, fun j q hj => ?_⟩⟩, ?_, ?_⟩
    · simp only [List.getElem?_map, Option.map_eq_some_iff] at hj
      obtain ⟨i, hi, rfl⟩ := hj
      obtain ⟨hlt, rfl⟩ := List.getElem?_eq_some_iff.1 hi
      simp only [List.length_range] at hlt
      simp only [List.getElem_range]
      obtain ⟨_, c, h1, h2, h3⟩ := hf j hlt
      exact ⟨c, h1, h2, h3⟩
    · have := hz (((List.range len).map D).length + ((List.range (m - len)).map fun j => D (len + j)).length |> (· * P.bytesOf e)) (by simp [DataW.weights, ht])
      simp only [List.length_map, List.length_range] at this ⊢
      rw [hB] at this
      refine Nat.le_trans (Nat.mul_le_mul_right _ ?_) this
      omega
    · intro y hy
      obtain ⟨i, hi, rfl⟩ := List.mem_map.1 hy
      exact (hf i (List.mem_range.1 hi)).1
theorem opens_arg {α : Type} [Inhabited α] {d : Kd α} {P : Program} {t e : TypeId} {p : α → Prop} {B : Nat} (ht : P.underlying t = some (.slice e)) (hB : P.bytesOf e = B) (hd : Opens d P e p)
    {H : Type} {enc : TypeId × Value → H} {w : World} {base : Nat} {spare : Nat → Bool} {held : Bool} {a : Option Addr} {len cap : Nat} {D : DataW H} {ps : List MemPlace} {ts : List TypeId} {ds : List (DataW H)} {j : Nat}
    (hsz : (DataW.weightsEach P ts ds).all (· ≤ reachBytes) = true) (hts : ts[j]? = some t) (hds : ds[j]? = some D) (h : DataW.Trod enc P w base spare held t (.slice a len cap) D ps) :
    ∃ l : List α, l.length = len ∧ l.length ≤ cap ∧ d.C w a l.length l ∧ l.length * B ≤ 140737488351232 ∧ ∀ y ∈ l, p y := by
  obtain ⟨fuel, hf⟩ := h
  obtain ⟨A, c, l, he, hl, hC, hb, hp⟩ := opens_row ht hB hd hf (fun n hn => by
    have := List.all_eq_true.1 hsz n (DataW.weights_mem_each hts hds n hn)
    simpa using this)
  simp [Value.cells] at he
  obtain ⟨rfl, rfl, rfl⟩ := he
  exact ⟨l, rfl, hl, hC, hb, hp⟩
end Go.Proofs.YtghbfjmmjfklfaaW.PrintWords
