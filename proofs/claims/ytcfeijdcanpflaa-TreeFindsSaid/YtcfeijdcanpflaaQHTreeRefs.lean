import Derived.Test.YtcfeijdcanpflaaQHTreeGet
import Derived.Test.YtcfeijdcanpflaaQHxglossatorref15Get
import Derived.Test.YtcfeijdcanpflaaQHxglossatorref15At
import Derived.Test.YtcfeijdcanpflaaQHxglossatorlaw15same
set_option linter.unusedVariables false
set_option linter.unusedSimpArgs false
namespace Go.Proofs.Ytcfeijdcanpflaa.H
open Go.RowKit Go.Proofs.YtcfeijdcanpflaaW.PrintWords Go.Proofs.YtcfeijdcanpflaaW.PrintLast Go.Proofs.YtcfeijdcanpflaaW.PrintMore
theorem lsize_mem : ∀ (l : List S26) (y : S26), y ∈ l → tsize y ≤ lsize l := by
  intro l
  induction l with
  | nil => intro y hy; cases hy
  | cons z l ih =>
    intro y hy
    simp only [lsize]
    rcases List.mem_cons.1 hy with rfl | hy
    · omega
    · have := ih y hy; omega
theorem kid_size (t : S26) (i : Int) (h0 : ¬ i < 0) (h1 : ¬ i ≥ (t.f3.length : Int)) (n : Nat) (ht : tsize t ≤ n) : tsize (rd_T26 t.f3 i) ≤ n ∧ t.f3.length ≤ n := by
  obtain ⟨a, b, c, kids⟩ := t
  simp only at h1 ⊢
  simp only [tsize] at ht
  obtain ⟨j, rfl⟩ := Int.eq_ofNat_of_zero_le (Int.not_lt.1 h0)
  have hj : j < kids.length := by omega
  rw [rd_at26 kids j hj]
  have := lsize_mem kids kids[j] (List.getElem_mem hj)
  have := length_lsize kids
  omega
section
variable (path : List Int)
theorem rget_l1 (l : List S26) : ∀ (q r0 : List S26) (x idx k w wd : Int) (r : GetR), (q ++ l ++ r0).length ≤ 2000000 → 0 ≤ idx → idx < (path.length : Int) → rd path idx = ((q ++ l).length : Int) → rd path idx < ((q ++ l ++ r0).length : Int) →
    Ev (fun m => glossatorref15_Get.l0 m path (sumFrom x l) (wrap64 (idx + 1)) (rd_T26 (q ++ l ++ r0) (rd path idx)).f0 (rd_T26 (q ++ l ++ r0) (rd path idx)).f1 (rd_T26 (q ++ l ++ r0) (rd path idx)).f2 (rd_T26 (q ++ l ++ r0) (rd path idx)).f3) r →
    Ev (fun m => glossatorref15_Get.l1 m path x idx (q.length : Int) k w wd (q ++ l ++ r0)) r := by
  induction l with
  | nil =>
    intro q r0 x idx k w wd r hq h0 h1 hi h2 h
    refine Ev.step (fun m => ?_) h
    rw [glossatorref15_Get.l1, if_pos h0, if_pos h1, if_neg (by rw [hi]; simp), if_pos (by rw [hi]; omega), if_pos h2]
    rfl
  | cons t l ih =>
    intro q r0 x idx k w wd r hq h0 h1 hi h2 h
    have e : q ++ t :: l = (q ++ [t]) ++ l := by simp
    have h3 := ih (q ++ [t]) r0 (wrap64 (x + t.f2)) idx k w wd r (by rw [← e]; exact hq) h0 h1 (by rw [← e]; exact hi) (by rw [← e]; exact h2) (by rw [← e]; exact h)
    rw [show ((q ++ [t]).length : Int) = (q.length : Int) + 1 by simp, ← e] at h3
    have hlen : (q ++ t :: l).length = q.length + l.length + 1 := by simp; omega
    have hlen2 : (q ++ t :: l ++ r0).length = q.length + l.length + 1 + r0.length := by simp; omega
    refine Ev.step (fun m => ?_) h3
    rw [glossatorref15_Get.l1, if_pos h0, if_pos h1, if_pos (by rw [hi, hlen]; omega), if_pos (by omega), if_pos (by rw [hlen2]; omega), wrap_id (x := (q.length : Int) + 1) (by omega) (by omega)]
    rw [show q ++ t :: l ++ r0 = q ++ t :: (l ++ r0) by simp, rd_mid26]
theorem rget_l0 (ps : List Int) : ∀ (pp : List Int) (x : Int) (t : S26), path = pp ++ ps → path.length ≤ 1000000000000000 → tsize t ≤ 2000000 →
    Ev (fun m => glossatorref15_Get.l0 m path x (pp.length : Int) t.f0 t.f1 t.f2 t.f3) (getS x t ps) := by
  induction ps with
  | nil =>
    intro pp x t hp hl ht
    refine Ev.step (f := fun _ => some (getS x t [])) (fun m => ?_) (Ev.now _)
    rw [glossatorref15_Get.l0, if_neg (by rw [hp]; simp)]
    rfl
  | cons i ps ih =>
    intro pp x t hp hl ht
    have hlen : path.length = pp.length + ps.length + 1 := by rw [hp]; simp; omega
    have hrd : rd path (pp.length : Int) = i := by rw [hp]; exact rd_app pp i ps
    have step : ∀ m, glossatorref15_Get.l0 (m + 1) path x (pp.length : Int) t.f0 t.f1 t.f2 t.f3 = if i < 0 then glossatorref15_Get.j1 m path x (pp.length : Int) true t.f0 t.f1 t.f2 t.f3 else glossatorref15_Get.j1 m path x (pp.length : Int) (decide (i ≥ (t.f3.length : Int))) t.f0 t.f1 t.f2 t.f3 := by
      intro m
      rw [glossatorref15_Get.l0, if_pos (by omega), if_pos (by omega), hrd]
    have bad : Ev (fun m => glossatorref15_Get.j1 m path x (pp.length : Int) true t.f0 t.f1 t.f2 t.f3) (0, 0, 0, [], 0, 0, false) :=
      Ev.step (f := fun _ => some (0, 0, 0, [], 0, 0, false)) (fun m => by rw [glossatorref15_Get.j1, if_pos rfl]) (Ev.now _)
    by_cases h0 : i < 0
    · simp only [getS, if_pos (show i < 0 ∨ i ≥ (t.f3.length : Int) from .inl h0)]
      exact Ev.step (fun m => by rw [step m, if_pos h0]) bad
    · by_cases h1 : i ≥ (t.f3.length : Int)
      · simp only [getS, if_pos (show i < 0 ∨ i ≥ (t.f3.length : Int) from .inr h1)]
        exact Ev.step (fun m => by rw [step m, if_neg h0, decide_eq_true h1]) bad
      · simp only [getS, if_neg (show ¬ (i < 0 ∨ i ≥ (t.f3.length : Int)) by omega)]
        have hts := kid_size t i h0 h1 _ ht
        have h2 := ih (pp ++ [i]) (sumFrom x (t.f3.take i.toNat)) (rd_T26 t.f3 i) (by rw [hp]; simp) hl hts.1
        have hw : wrap64 ((pp.length : Int) + 1) = ((pp ++ [i]).length : Int) := by rw [wrap_id (by omega) (by omega)]; simp
        rw [← hw] at h2
        have ed : [] ++ t.f3.take i.toNat ++ t.f3.drop i.toNat = t.f3 := by simp
        have hk : (([] : List S26) ++ t.f3.take i.toNat).length = i.toNat := by simp; omega
        have h3 := rget_l1 path (t.f3.take i.toNat) [] (t.f3.drop i.toNat) x (pp.length : Int) t.f0 t.f1 t.f2 (getS (sumFrom x (t.f3.take i.toNat)) (rd_T26 t.f3 i) ps)
          (by rw [ed]; exact hts.2) (by omega) (by omega) (by rw [hrd, hk]; omega) (by rw [hrd, ed]; omega) (by rw [hrd, ed]; exact h2)
        rw [ed] at h3
        refine Ev.step (fun m => by rw [step m, if_neg h0, decide_eq_false h1]) (Ev.step (fun m => ?_) h3)
        rw [glossatorref15_Get.j1, if_neg (by simp)]
        rfl
end
theorem rget_ev (t : S26) (path : List Int) (hl : path.length ≤ 1000000000000000) (hb : byteT t) (ht : tsize t ≤ 2000000) : Ev (fun m => glossatorref15_Get.f m t.f0 t.f1 t.f2 t.f3 path) (getF t path) := by
  have hr := right_ref t.f0 t.f1 t.f2 t.f3 (by rw [eta26]; exact hb)
  rw [eta26] at hr
  unfold getF
  refine Ev.congr (fun m => by unfold glossatorref15_Get.f; rfl) (Ev.bind hr ?_)
  cases h : okB t with
  | true => exact Ev.congr (fun m => if_pos rfl) (rget_l0 path path [] 0 t rfl hl ht)
  | false => exact Ev.congr (f := fun _ => some (0, 0, 0, [], 0, 0, false)) (fun m => by rw [if_neg (by simp)]) (Ev.now _)
mutual
theorem rat_l0 : ∀ (t : S26) (out : List Int) (x p : Int), goodT t → 0 ≤ x → 0 ≤ p → x + p ≤ 1099511627776 → out.length + tsize t ≤ 2000000 →
    Ev (fun m => glossatorref15_At.l0 m (x + p) out x t.f0 t.f1 t.f2 t.f3) (out ++ atT t p)
  | ⟨k, w, wd, kids⟩, out, x, p, hg, hx, h0, h1, hs => by
    simp only [goodT] at hg
    simp only [tsize] at hs
    have := rat_l1 kids [] out x p k w wd hg.2.2.2.2 hx h0 h1 (by simp; omega) (by omega)
    simp only [atT]
    exact Ev.step (fun m => by rw [glossatorref15_At.l0]; rfl) this
theorem rat_l1 : ∀ (l q : List S26) (out : List Int) (x p k w wd : Int), goodL l → 0 ≤ x → 0 ≤ p → x + p ≤ 1099511627776 → q.length + lsize l ≤ 2000000 → out.length + 1 + lsize l ≤ 2000000 →
    Ev (fun m => glossatorref15_At.l1 m (x + p) out (-1) x (q.length : Int) k w wd (q ++ l)) (out ++ atL l (q.length : Int) p)
  | [], q, out, x, p, k, w, wd, _, _, _, _, _, _ => by
    simp only [atL, List.append_nil]
    exact Ev.step (f := fun _ => some out) (fun m => by rw [glossatorref15_At.l1, if_neg (by simp), if_pos (by omega)]) (Ev.now _)
  | t :: r, q, out, x, p, k, w, wd, hg, hx, h0, h1, hq, ho => by
    simp only [goodL] at hg
    simp only [lsize] at hq ho
    have hw := hg.1.w
    have hs := tsize_pos t
    simp only [atL]
    by_cases c : p ≥ t.f2
    · rw [if_pos c]
      have h2 := rat_l1 r (q ++ [t]) out (x + t.f2) (p - t.f2) k w wd hg.2 (by omega) (by omega) (by omega) (by simp; omega) (by omega)
      have e : ((q.length + 1 : Nat) : Int) = (q.length : Int) + 1 := by omega
      rw [List.length_append, List.length_singleton, List.append_assoc, List.singleton_append, e, show x + t.f2 + (p - t.f2) = x + p by omega] at h2
      refine Ev.step (fun m => ?_) h2
      rw [glossatorref15_At.l1, if_pos (by simp; omega), if_pos (by omega), if_pos (by omega), rd_mid26, wrap_id (x := x + t.f2) (by omega) (by omega), if_neg (by omega), wrap_id (x := (q.length : Int) + 1) (by omega) (by omega)]
    · rw [if_neg c]
      have h2 := rat_l0 t (out ++ [(q.length : Int)]) x p hg.1 hx h0 h1 (by simp; omega)
      rw [List.append_assoc, List.singleton_append] at h2
      refine Ev.step (fun m => ?_) h2
      rw [glossatorref15_At.l1, if_pos (by simp; omega), if_pos (by omega), if_pos (by omega), rd_mid26, wrap_id (x := x + t.f2) (by omega) (by omega), if_pos (by omega), if_neg (by omega), if_pos (by omega)]
end
theorem rat_ev (t : S26) (p : Int) (hb : byteT t) (ht : tsize t ≤ 2000000) : Ev (fun m => glossatorref15_At.f m t.f0 t.f1 t.f2 t.f3 p) (atF t p) := by
  have hr := right_ref t.f0 t.f1 t.f2 t.f3 (by rw [eta26]; exact hb)
  rw [eta26] at hr
  have bad : Ev (fun m => glossatorref15_At.j0 m p true t.f0 t.f1 t.f2 t.f3) [] := Ev.step (f := fun _ => some []) (fun m => by rw [glossatorref15_At.j0, if_pos rfl]) (Ev.now _)
  unfold atF
  refine Ev.congr (fun m => by unfold glossatorref15_At.f; rfl) (Ev.bind hr ?_)
  cases h : okB t with
  | false =>
    rw [if_neg (by simp)]
    exact Ev.congr (fun m => by rw [if_neg (by simp)]) bad
  | true =>
    by_cases h0 : p < 0
    · rw [if_neg (by omega)]
      exact Ev.congr (fun m => by rw [if_pos rfl, if_pos h0]) bad
    · by_cases h1 : p ≥ t.f2
      · rw [if_neg (by omega)]
        exact Ev.congr (fun m => by rw [if_pos rfl, if_neg h0, decide_eq_true h1]) bad
      · rw [if_pos ⟨rfl, by omega, by omega⟩]
        have hg := ok_good t hb h
        have := rat_l0 t [] 0 p hg (by omega) (by omega) (by have := hg.w; omega) (by simpa using ht)
        rw [List.nil_append, Int.zero_add] at this
        exact Ev.congr (fun m => by rw [if_pos rfl, if_neg h0, decide_eq_false h1]) (Ev.step (fun m => by rw [glossatorref15_At.j0, if_neg (by simp)]) this)
theorem lsame_l0 (l : List Int) : ∀ (q : List Int), (q ++ l).length ≤ 1000000000000000 → Ev (fun m => glossatorlaw15_same.l0 m (q ++ l) (q ++ l) (q.length : Int)) true := by
  induction l with
  | nil => intro q h; exact Ev.step (f := fun _ => some true) (fun m => by rw [glossatorlaw15_same.l0, if_neg (by simp)]) (Ev.now _)
  | cons i l ih =>
    intro q h
    have h2 := ih (q ++ [i]) (by simpa using h)
    rw [show ((q ++ [i]).length : Int) = (q.length : Int) + 1 by simp, List.append_assoc, List.singleton_append] at h2
    have hlen : (q ++ i :: l).length = q.length + l.length + 1 := by simp; omega
    refine Ev.step (fun m => ?_) h2
    rw [glossatorlaw15_same.l0, if_pos (by rw [hlen]; omega), if_pos (by omega), if_pos (by rw [hlen]; omega), if_pos rfl, wrap_id (x := (q.length : Int) + 1) (by omega) (by omega)]
theorem lsame_refl (l : List Int) (h : l.length ≤ 1000000000000000) : Ev (fun m => glossatorlaw15_same.f m l l) true :=
  Ev.congr (fun m => by unfold glossatorlaw15_same.f; rw [if_pos rfl]; rfl) (lsame_l0 l [] h)
mutual
theorem atT_length : ∀ (t : S26) (p : Int), (atT t p).length + 1 ≤ tsize t
  | ⟨_, _, _, kids⟩, p => by
    have := atL_length kids 0 p
    simp only [atT, tsize]
    omega
theorem atL_length : ∀ (l : List S26) (i p : Int), (atL l i p).length ≤ lsize l
  | [], _, _ => by simp [atL]
  | t :: r, i, p => by
    simp only [atL, lsize]
    by_cases c : p ≥ t.f2
    · rw [if_pos c]; have := atL_length r (i + 1) (p - t.f2); omega
    · rw [if_neg c]; have := atT_length t p; simp; omega
end
theorem atF_length (t : S26) (p : Int) : (atF t p).length ≤ tsize t := by
  unfold atF
  split
  · have := atT_length t p; omega
  · simp
end Go.Proofs.Ytcfeijdcanpflaa.H
