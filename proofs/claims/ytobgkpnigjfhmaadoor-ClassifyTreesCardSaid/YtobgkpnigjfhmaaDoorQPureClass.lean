/- The plain law beneath Classify: the document's marks are those of classify.Of. -/
import Derived.Test.YtobgkpnigjfhmaaDoorQHClassBad
import Derived.Test.YtobgkpnigjfhmaaDoorQHxglossatorref22Of
set_option linter.unusedVariables false
set_option linter.unusedSimpArgs false
namespace Go.Proofs.YtobgkpnigjfhmaaDoor.H
open Go.RowKit Go.Proofs.YtobgkpnigjfhmaaDoorW.PrintWords Go.Proofs.YtobgkpnigjfhmaaDoorW.PrintLast Go.Proofs.YtobgkpnigjfhmaaDoorW.PrintMore
def kindR (k : Int) : Int := (if k < 41 then colTab.getD k.toNat 0 else 0) - 1
set_option maxRecDepth 100000 in
theorem kind_at : ∀ k : Fin 256, glossatorref22_kind.f 5 (k.1 : Int) = some (kindR k.1) := by decide
theorem kind_ev (k : Int) (h0 : 0 ≤ k) (h1 : k ≤ 255) : Ev (fun m => glossatorref22_kind.f m k) (kindR k) := by
  have h := kind_at ⟨k.toNat, by omega⟩
  simp only at h
  rw [show ((k.toNat : Nat) : Int) = k by omega] at h
  exact Ev.of (fun m => glossatorref22_kind.mono k m) h
theorem as_f (k : Int) : glossatorref22_as.f k = some (calN k - 1) := by
  unfold glossatorref22_as.f calN
  split
  · rfl
  · split <;> rfl
def outOf : Option (Int × Int) → Int × Int
  | some c => (c.1 - 1, c.2)
  | none => (-1, 0)
theorem rd72_mid (p : List S72) (t : S72) (r : List S72) : rd_T72 (p ++ t :: r) (p.length : Int) = t := by simp [rd_T72]
theorem rd43_mid (p : List S43) (t : S43) (r : List S43) : rd_T43 (p ++ t :: r) (p.length : Int) = t := by simp [rd_T43]
theorem firstOf_cons (e : Ent) (L : List Ent) (s : Int × Int) : firstOf (e :: L) s = if e.1 = s then some e.2 else firstOf L s := by
  unfold firstOf
  rw [List.find?_cons]
  by_cases c : e.1 = s
  · simp [c]
  · have : (e.1 == s) = false := by simpa using c
    rw [this, if_neg c]
theorem name_l1 (ds : List S72) (a b : Int) (r : List S43) : ∀ (q : List S43), q.length + r.length ≤ 2000000 →
    Ev (fun m => glossatorref22_name.l1 m (q.length : Int) ds (q ++ r) a b) (outOf (firstOf (r.map (entB ds)) (a, b))) := by
  induction r with
  | nil => intro q h; exact Ev.step (f := fun _ => some (-1, 0)) (fun m => by rw [glossatorref22_name.l1, if_neg (by simp)]) (Ev.now _)
  | cons x r ih =>
    intro q h
    simp only [List.length_cons] at h
    have h3 := ih (q ++ [x]) (by simp; omega)
    rw [List.append_assoc, List.singleton_append] at h3
    have hl : (q ++ x :: r).length = q.length + r.length + 1 := by simp; omega
    have hw : wrap64 ((q.length : Int) + 1) = ((q ++ [x]).length : Int) := by rw [wrap_id (by omega) (by omega)]; simp
    rw [List.map_cons, firstOf_cons]
    by_cases c : x.f0.f0 = a ∧ x.f0.f1 = b
    · have e : (entB ds x).1 = (a, b) := by unfold entB; simp only; rw [c.1, c.2]
      rw [if_pos e]
      have hc : (x.f0.f0 == a && x.f0.f1 == b) = true := by rw [c.1, c.2]; simp
      unfold entB
      simp only
      by_cases c0 : x.f1 < 0
      · rw [if_neg (by omega)]
        exact Ev.step (f := fun _ => some (5, 2)) (fun m => by rw [glossatorref22_name.l1, if_pos (by rw [hl]; omega), if_pos (by omega), rd43_mid, if_pos hc, if_pos c0]) (Ev.now _)
      · by_cases c1 : x.f1 ≥ (ds.length : Int)
        · rw [if_neg (by omega)]
          exact Ev.step (f := fun _ => some (5, 2)) (fun m => by rw [glossatorref22_name.l1, if_pos (by rw [hl]; omega), if_pos (by omega), rd43_mid, if_pos hc, if_neg c0, if_pos c1]) (Ev.now _)
        · rw [if_pos (by omega)]
          exact Ev.step (f := fun _ => some (calN (rd_T72 ds x.f1).f1 - 1, 0)) (fun m => by rw [glossatorref22_name.l1, if_pos (by rw [hl]; omega), if_pos (by omega), rd43_mid, if_pos hc, if_neg c0, if_neg c1, if_pos (by omega), if_pos (by omega), as_f]; rfl) (Ev.now _)
    · have e : ¬ (entB ds x).1 = (a, b) := by unfold entB; simp only [Prod.mk.injEq]; exact c
      rw [if_neg e]
      have hc : ¬ (x.f0.f0 == a && x.f0.f1 == b) = true := by simpa using c
      exact Ev.step (fun m => by rw [glossatorref22_name.l1, if_pos (by rw [hl]; omega), if_pos (by omega), rd43_mid, if_neg hc, hw]) h3
theorem name_l0 (bs : List S43) (hb : bs.length ≤ 2000000) (a b : Int) (r : List S72) : ∀ (q : List S72), q.length + r.length ≤ 2000000 →
    Ev (fun m => glossatorref22_name.l0 m (q.length : Int) (q ++ r) bs a b) (outOf (firstOf (r.map entD ++ bs.map (entB (q ++ r))) (a, b))) := by
  induction r with
  | nil =>
    intro q h
    have h1 := name_l1 (q ++ []) a b bs [] (by simpa using hb)
    exact Ev.step (fun m => by rw [glossatorref22_name.l0, if_neg (by simp)]) (by simpa using h1)
  | cons x r ih =>
    intro q h
    simp only [List.length_cons] at h
    have h3 := ih (q ++ [x]) (by simp; omega)
    rw [List.append_assoc, List.singleton_append] at h3
    have hl : (q ++ x :: r).length = q.length + r.length + 1 := by simp; omega
    have hw : wrap64 ((q.length : Int) + 1) = ((q ++ [x]).length : Int) := by rw [wrap_id (by omega) (by omega)]; simp
    rw [List.map_cons, List.cons_append, firstOf_cons]
    by_cases c : x.f0.f0 = a ∧ x.f0.f1 = b
    · have e : (entD x).1 = (a, b) := by unfold entD; simp only; rw [c.1, c.2]
      rw [if_pos e]
      have hc : (x.f0.f0 == a && x.f0.f1 == b) = true := by rw [c.1, c.2]; simp
      unfold entD
      simp only
      cases c2 : x.f2 with
      | true => exact Ev.step (f := fun _ => some (calN x.f1 - 1, 5)) (fun m => by rw [glossatorref22_name.l0, if_pos (by rw [hl]; omega), if_pos (by omega), rd72_mid, if_pos hc, if_pos c2, as_f]; rfl) (Ev.now _)
      | false => exact Ev.step (f := fun _ => some (calN x.f1 - 1, 1)) (fun m => by rw [glossatorref22_name.l0, if_pos (by rw [hl]; omega), if_pos (by omega), rd72_mid, if_pos hc, if_neg (by rw [c2]; simp), as_f]; rfl) (Ev.now _)
    · have e : ¬ (entD x).1 = (a, b) := by unfold entD; simp only [Prod.mk.injEq]; exact c
      rw [if_neg e]
      have hc : ¬ (x.f0.f0 == a && x.f0.f1 == b) = true := by simpa using c
      exact Ev.step (fun m => by rw [glossatorref22_name.l0, if_pos (by rw [hl]; omega), if_pos (by omega), rd72_mid, if_neg hc, hw]) h3
theorem name_ev (ds : List S72) (bs : List S43) (h : ds.length + bs.length ≤ 100000) (a b : Int) : Ev (fun m => glossatorref22_name.f m ds bs a b) (outOf (firstOf (ents ds bs) (a, b))) := by
  have := name_l0 bs (by omega) a b ds [] (by simp; omega)
  exact Ev.congr (fun m => by unfold glossatorref22_name.f; rfl) (by simpa [ents] using this)
def marksS (E : List Ent) (xs : List (S29 × Int × Int)) : List S57 := xs.flatMap fun x => markO E x.1.f0 (x.2.1, wrap64 (x.2.1 + x.1.f2))
theorem marksA_er (E : List Ent) (xs : List (AT × Int × Int)) : marksA E xs = marksS E (xs.map er) := by
  unfold marksA marksS
  rw [List.flatMap_map]
  congr 1
  funext x
  unfold er spanA
  simp only
  rw [show x.1.erase.f0 = x.1.k by rw [erase_f], show x.1.erase.f2 = x.1.wd by rw [erase_f]]
theorem rd85_mid (p : List S85) (t : S85) (r : List S85) : rd_T85 (p ++ t :: r) (p.length : Int) = t := by simp [rd_T85]
theorem markO_name (E : List Ent) (hE : fewE E) (hn : ∀ e ∈ E, 1 ≤ e.2.1) (s : Int × Int) : markO E 6 s = if (outOf (firstOf E s)).1 ≥ 0 then [⟨⟨s.1, s.2⟩, (outOf (firstOf E s)).1, (outOf (firstOf E s)).2⟩] else [] := by
  unfold markO colOf
  rw [if_pos rfl]
  cases h : firstOf E s with
  | none => simp [outOf]
  | some c =>
    have h1 : 1 ≤ c.1 := by
      unfold firstOf at h
      obtain ⟨e, he, rfl⟩ := Option.map_eq_some_iff.1 h
      exact hn e (List.mem_of_find?_eq_some he)
    have h2 : (outOf (some c)).1 ≥ 0 := by show c.1 - 1 ≥ 0; omega
    rw [Option.getD_some, if_neg (by omega), if_pos h2]
    rfl
theorem markO_kind (E : List Ent) (k : Int) (h : k ≠ 6) (s : Int × Int) : markO E k s = if kindR k ≥ 0 then [⟨⟨s.1, s.2⟩, kindR k, 0⟩] else [] := by
  unfold markO colOf kindR
  rw [if_neg h]
  have h1 := (colTab_few k.toNat).1
  by_cases c : k < 41
  · rw [if_pos c, if_pos c]
    simp only
    by_cases d : colTab.getD k.toNat 0 = 0
    · rw [if_pos d, if_neg (by omega)]
    · rw [if_neg d, if_pos (by omega)]
  · rw [if_neg c, if_neg c]
    simp
theorem ents_pos (ds : List S72) (bs : List S43) : ∀ e ∈ ents ds bs, 1 ≤ e.2.1 := by
  intro e he
  have hc : ∀ k, 6 ≤ calN k := fun k => by unfold calN; split <;> (try split) <;> omega
  rcases List.mem_append.1 he with h | h
  · obtain ⟨d, _, rfl⟩ := List.mem_map.1 h
    have := hc d.f1
    simp only [entD]
    omega
  · obtain ⟨d, _, rfl⟩ := List.mem_map.1 h
    unfold entB
    simp only
    split
    · have := hc (rd_T72 ds d.f1).f1
      simp only
      omega
    · simp
def fine (x : S29 × Int × Int) : Prop := 0 ≤ x.1.f0 ∧ x.1.f0 ≤ 255 ∧ (x.1.f3 ≠ [] → 41 ≤ x.1.f0)
theorem rof_l0 (ds : List S72) (bs : List S43) (hn : ds.length + bs.length ≤ 100000) (r : List (S29 × Int × Int)) : ∀ (q : List (S29 × Int × Int)) (out : List S57), (∀ x ∈ r, fine x) → q.length + r.length ≤ 2000000 → out.length + r.length ≤ 2000000 →
    Ev (fun m => glossatorref22_Of.l0 m ((q ++ r).map seenS) out (q.length : Int) ds bs) (out ++ marksS (ents ds bs) r, 0) := by
  induction r with
  | nil => intro q out _ h1 h2; exact Ev.step (f := fun _ => some (out, 0)) (fun m => by rw [glossatorref22_Of.l0, if_neg (by simp)]) (by simpa [marksS] using Ev.now (out, (0 : Int)))
  | cons x r ih =>
    intro q out hf h1 h2
    simp only [List.length_cons] at h1 h2
    obtain ⟨f0, f1, f2⟩ := hf x (List.mem_cons_self ..)
    have hf' : ∀ y ∈ r, fine y := fun y hy => hf y (List.mem_cons_of_mem _ hy)
    have hr : rd_T85 ((q ++ x :: r).map seenS) (q.length : Int) = seenS x := by
      rw [List.map_append, List.map_cons]
      have := rd85_mid (q.map seenS) (seenS x) (r.map seenS)
      rwa [List.length_map] at this
    have hl : ((q ++ x :: r).map seenS).length = q.length + r.length + 1 := by simp; omega
    have hw : wrap64 ((q.length : Int) + 1) = ((q ++ [x]).length : Int) := by rw [wrap_id (by omega) (by omega)]; simp
    have e0 : (seenS x).f0 = x.1 := rfl
    have e1 : (seenS x).f1 = ⟨x.2.1, wrap64 (x.2.1 + x.1.f2)⟩ := rfl
    have hm : marksS (ents ds bs) (x :: r) = markO (ents ds bs) x.1.f0 (x.2.1, wrap64 (x.2.1 + x.1.f2)) ++ marksS (ents ds bs) r := by unfold marksS; rw [List.flatMap_cons]
    rw [hm]
    have hskip := ih (q ++ [x]) out hf' (by simp; omega) (by omega)
    rw [List.append_assoc q, List.singleton_append] at hskip
    have hadd : ∀ p : S57, Ev (fun m => glossatorref22_Of.l0 m ((q ++ x :: r).map seenS) (out ++ [p]) ((q ++ [x]).length : Int) ds bs) (out ++ ([p] ++ marksS (ents ds bs) r), 0) := fun p => by
      have := ih (q ++ [x]) (out ++ [p]) hf' (by simp; omega) (by simp; omega)
      rw [List.append_assoc q, List.singleton_append, List.append_assoc out] at this
      exact this
    have hlt : out.length < 4398046511104 := by omega
    by_cases ck : x.1.f3 = []
    · have hk0 : ¬ ((x.1.f3.length : Int) > 0) := by rw [ck]; simp
      by_cases c6 : x.1.f0 = 6
      · refine Ev.step (f := fun m => (glossatorref22_kind.f m x.1.f0).bind fun _ => (glossatorref22_name.f m ds bs x.2.1 (wrap64 (x.2.1 + x.1.f2))).bind fun bt => if bt.1 ≥ 0 then (glossatorref22_Of.l0 m ((q ++ x :: r).map seenS) (out ++ [⟨⟨x.2.1, wrap64 (x.2.1 + x.1.f2)⟩, bt.1, bt.2⟩]) ((q ++ [x]).length : Int) ds bs) else (glossatorref22_Of.l0 m ((q ++ x :: r).map seenS) out ((q ++ [x]).length : Int) ds bs)) (fun m => ?_) ?_
        · rw [glossatorref22_Of.l0, if_pos (by rw [hl]; omega), if_pos (by omega), hr, hw, e0, e1, if_neg hk0]
          simp only [if_pos c6, if_pos hlt]
        · refine Ev.bind (f := fun m _ => (glossatorref22_name.f m ds bs x.2.1 (wrap64 (x.2.1 + x.1.f2))).bind fun bt => if bt.1 ≥ 0 then (glossatorref22_Of.l0 m ((q ++ x :: r).map seenS) (out ++ [⟨⟨x.2.1, wrap64 (x.2.1 + x.1.f2)⟩, bt.1, bt.2⟩]) ((q ++ [x]).length : Int) ds bs) else (glossatorref22_Of.l0 m ((q ++ x :: r).map seenS) out ((q ++ [x]).length : Int) ds bs)) (kind_ev _ f0 f1) (Ev.bind (f := fun m bt => if bt.1 ≥ 0 then (glossatorref22_Of.l0 m ((q ++ x :: r).map seenS) (out ++ [⟨⟨x.2.1, wrap64 (x.2.1 + x.1.f2)⟩, bt.1, bt.2⟩]) ((q ++ [x]).length : Int) ds bs) else (glossatorref22_Of.l0 m ((q ++ x :: r).map seenS) out ((q ++ [x]).length : Int) ds bs)) (name_ev ds bs hn _ _) ?_)
          rw [c6, markO_name _ (fewE_ents ds bs) (ents_pos ds bs)]
          by_cases c : (outOf (firstOf (ents ds bs) (x.2.1, wrap64 (x.2.1 + x.1.f2)))).1 ≥ 0
          · simp only [if_pos c]
            exact hadd _
          · simp only [if_neg c]
            exact hskip
      · refine Ev.step (f := fun m => (glossatorref22_kind.f m x.1.f0).bind fun t => if t ≥ 0 then (glossatorref22_Of.l0 m ((q ++ x :: r).map seenS) (out ++ [⟨⟨x.2.1, wrap64 (x.2.1 + x.1.f2)⟩, t, 0⟩]) ((q ++ [x]).length : Int) ds bs) else (glossatorref22_Of.l0 m ((q ++ x :: r).map seenS) out ((q ++ [x]).length : Int) ds bs)) (fun m => ?_) ?_
        · rw [glossatorref22_Of.l0, if_pos (by rw [hl]; omega), if_pos (by omega), hr, hw, e0, e1, if_neg hk0]
          simp only [if_neg c6, if_pos hlt]
        · refine Ev.bind (f := fun m t => if t ≥ 0 then (glossatorref22_Of.l0 m ((q ++ x :: r).map seenS) (out ++ [⟨⟨x.2.1, wrap64 (x.2.1 + x.1.f2)⟩, t, 0⟩]) ((q ++ [x]).length : Int) ds bs) else (glossatorref22_Of.l0 m ((q ++ x :: r).map seenS) out ((q ++ [x]).length : Int) ds bs)) (kind_ev _ f0 f1) ?_
          rw [markO_kind _ _ c6]
          by_cases c : kindR x.1.f0 ≥ 0
          · simp only [if_pos c]
            exact hadd _
          · simp only [if_neg c]
            exact hskip
    · have hk0 : (x.1.f3.length : Int) > 0 := by
        have := List.length_pos_iff.2 ck
        omega
      have h41 := f2 ck
      have hmo : markO (ents ds bs) x.1.f0 (x.2.1, wrap64 (x.2.1 + x.1.f2)) = [] := by
        rw [markO_kind _ _ (by omega)]
        unfold kindR
        rw [if_neg (by omega)]
      rw [hmo, List.nil_append]
      exact Ev.step (fun m => by rw [glossatorref22_Of.l0, if_pos (by rw [hl]; omega), if_pos (by omega), hr, hw, e0, if_pos hk0]) hskip
end Go.Proofs.YtobgkpnigjfhmaaDoor.H
