/- What both say of a text, a tree and names. -/
import Derived.Test.YtobgkpnigjfhmaaDoorQPureClass
set_option linter.unusedVariables false
set_option linter.unusedSimpArgs false
namespace Go.Proofs.YtobgkpnigjfhmaaDoor.H
open Go.RowKit Go.Shelf Go.Proofs.YtobgkpnigjfhmaaDoorW.PrintWords Go.Proofs.YtobgkpnigjfhmaaDoorW.PrintLast Go.Proofs.YtobgkpnigjfhmaaDoorW.PrintMore
mutual
/-- Kids stand below inner nodes alone. -/
def leafsT : S29 → Prop
  | ⟨k, w, wd, kids⟩ => (kids ≠ [] → 50 < k) ∧ leafsL kids
def leafsL : List S29 → Prop
  | [] => True
  | t :: r => leafsT t ∧ leafsL r
end
mutual
theorem may_leafs : ∀ (t : S29) (at_ c : Int), (mayN t at_ c).2 = true → leafsT t
  | ⟨k, w, wd, kids⟩, at_, c, h => by
    simp only [mayN] at h
    by_cases t1 : wrap64 (c + 1) > 1048576
    · rw [if_pos t1] at h; cases h
    rw [if_neg t1] at h
    by_cases t2 : at_ > 65536
    · rw [if_pos t2] at h; cases h
    rw [if_neg t2] at h
    by_cases t3 : k ≤ 50
    · rw [if_pos t3] at h
      obtain ⟨rfl, _⟩ := leafB_facts h
      simp only [leafsT, leafsL, and_true]
      exact fun h => absurd rfl h
    rw [if_neg t3] at h
    by_cases t4 : k > 68
    · rw [if_pos t4] at h; cases h
    rw [if_neg t4] at h
    by_cases t5 : w = 0
    case neg => rw [if_pos (show w ≠ 0 from t5)] at h; cases h
    rw [if_neg (show ¬ (w ≠ 0) from fun h => h t5)] at h
    by_cases t6 : k = 51 ∧ at_ > 1
    · rw [if_pos t6] at h; cases h
    rw [if_neg t6] at h
    revert h
    cases hm : mayL kids at_ (wrap64 (c + 1)) 0 with
    | mk c' o =>
      cases o with
      | none => intro h; cases h
      | some s =>
        intro h
        simp only [leafsT]
        exact ⟨fun _ => by omega, mayL_leafs kids at_ _ 0 c' s hm⟩
theorem mayL_leafs : ∀ (l : List S29) (at_ c sum c' s : Int), mayL l at_ c sum = (c', some s) → leafsL l
  | [], at_, c, sum, c', s, h => by simp only [leafsL]
  | t :: r, at_, c, sum, c', s, h => by
    simp only [mayL] at h
    cases hm : mayN t (wrap64 (at_ + 1)) c with
    | mk c2 b =>
      rw [hm] at h
      cases b with
      | false => simp at h
      | true =>
        simp only at h
        simp only [leafsL]
        exact ⟨may_leafs t _ c (by rw [hm]), mayL_leafs r at_ c2 _ c' s h⟩
end
mutual
theorem preT_fine : ∀ (t : S29) (f d : Int) (x : S29 × Int × Int), x ∈ preT t f d → leafsT t → byteT t → fine x
  | ⟨k, w, wd, l⟩, f, d, x, h, hw, hb => by
    simp only [preT, List.mem_cons] at h
    simp only [leafsT] at hw
    simp only [byteT] at hb
    rcases h with rfl | h
    · exact ⟨hb.1.1, hb.1.2, fun hl => by have := hw.1 hl; show 41 ≤ k; omega⟩
    · exact preTL_fine l f d x h hw.2 hb.2.2
theorem preTL_fine : ∀ (l : List S29) (f d : Int) (x : S29 × Int × Int), x ∈ preTL l f d → leafsL l → byteL l → fine x
  | [], f, d, x, h, _, _ => by simp [preTL] at h
  | t :: r, f, d, x, h, hw, hb => by
    simp only [preTL, List.mem_append] at h
    simp only [leafsL] at hw
    simp only [byteL] at hb
    rcases h with h | h
    · exact preT_fine t _ _ x h hw.1 hb.1
    · exact preTL_fine r _ _ x h hw.2 hb.2
end
theorem allT_fine {t : S29} (hb : byteT t) : ∀ x ∈ allT t, fine x := by
  intro x h
  unfold allT at h
  cases ho : okB t with
  | false => rw [ho] at h; simp at h
  | true =>
    rw [ho, if_pos rfl] at h
    exact preT_fine t 0 0 x h (may_leafs t 1 0 ho) hb
def okc (s : ByteArray) (t : S29) : Bool := okB t && (t.f0 == 51 && t.f2 == (s.size : Int))
def marksOf (s : ByteArray) (t : S29) (ds : List S72) (bs : List S43) : List S57 := if okc s t = true then marksS (ents ds bs) (allT t) else []
def errOf (s : ByteArray) (t : S29) : Int := if okc s t = true then 0 else 150
theorem all_ev22 (t : S29) (hb : byteT t) (ht : tsize t ≤ 2000000) : Ev (fun m => glossatorref15_All.f m t.f0 t.f1 t.f2 t.f3) ((allT t).map seenS) := by
  have e : (⟨t.f0, t.f1, t.f2, t.f3⟩ : S29) = t := eta29 t
  have hr := right_ref t.f0 t.f1 t.f2 t.f3 (by rw [e]; exact hb)
  rw [e] at hr
  refine Ev.congr (fun m => by unfold glossatorref15_All.f; rfl) (Ev.bind (f := fun _ (r : Bool) => if r = true then (if tsize ⟨t.f0, t.f1, t.f2, t.f3⟩ ≤ 2000000 then some ((preT ⟨t.f0, t.f1, t.f2, t.f3⟩ 0 0).map seenS) else none) else some []) hr (Ev.const ?_))
  rw [e, if_pos ht]
  unfold allT
  cases okB t <;> simp
theorem marksS_len (E : List Ent) (xs : List (S29 × Int × Int)) : (marksS E xs).length ≤ xs.length := by
  unfold marksS
  induction xs with
  | nil => simp
  | cons x r ih =>
    rw [List.flatMap_cons, List.length_append, List.length_cons]
    have := markO_len E x.1.f0 (x.2.1, wrap64 (x.2.1 + x.1.f2))
    omega
theorem marksOf_len (s : ByteArray) (t : S29) (ds : List S72) (bs : List S43) : (marksOf s t ds bs).length ≤ tsize t := by
  unfold marksOf
  split
  · exact Nat.le_trans (marksS_len _ _) (allT_length t)
  · exact Nat.zero_le _
theorem rof_ev (s : ByteArray) (t : S29) (ds : List S72) (bs : List S43) (hb : byteT t) (ht : tsize t ≤ 2000000) (hn : ds.length + bs.length ≤ 100000) :
    Ev (fun m => glossatorref22_Of.f m s t.f0 t.f1 t.f2 t.f3 ds bs) (marksOf s t ds bs, errOf s t) := by
  have e : (⟨t.f0, t.f1, t.f2, t.f3⟩ : S29) = t := eta29 t
  have hr := right_ref t.f0 t.f1 t.f2 t.f3 (by rw [e]; exact hb)
  rw [e] at hr
  have hl := allT_length t
  have h0 := rof_l0 ds bs hn (allT t) [] [] (allT_fine hb) (by simp; omega) (by simp; omega)
  rw [List.nil_append, List.nil_append] at h0
  have hbad : Ev (fun m => glossatorref22_Of.j0 m true t.f0 t.f1 t.f2 t.f3 ds bs) ([], 150) := Ev.step (f := fun _ => some ([], 150)) (fun m => by rw [glossatorref22_Of.j0, if_pos rfl]) (Ev.now _)
  have hgood : Ev (fun m => glossatorref22_Of.j0 m false t.f0 t.f1 t.f2 t.f3 ds bs) (marksS (ents ds bs) (allT t), 0) :=
    Ev.step (f := fun m => (glossatorref15_All.f m t.f0 t.f1 t.f2 t.f3).bind fun l => glossatorref22_Of.l0 m l [] 0 ds bs) (fun m => by rw [glossatorref22_Of.j0, if_neg (by simp)]) (Ev.bind (f := fun m l => glossatorref22_Of.l0 m l [] 0 ds bs) (all_ev22 t hb ht) h0)
  refine Ev.congr (fun m => by unfold glossatorref22_Of.f; rfl) (Ev.bind (a := okB t) hr ?_)
  unfold marksOf errOf okc
  cases ho : okB t with
  | false => simpa using hbad
  | true =>
    by_cases c51 : t.f0 = 51
    · by_cases cw : t.f2 = (s.size : Int)
      · have hz : (t.f2 != (s.size : Int)) = false := by simp [cw]
        simp only [if_true, if_pos c51, hz]
        have : (true && (t.f0 == 51 && t.f2 == (s.size : Int))) = true := by simp [c51, cw]
        rw [this]
        exact hgood
      · have hz : (t.f2 != (s.size : Int)) = true := by simp [cw]
        simp only [if_true, if_pos c51, hz]
        have : (true && (t.f0 == 51 && t.f2 == (s.size : Int))) = false := by simp [cw]
        rw [this]
        exact hbad
    · simp only [if_true, if_neg c51]
      have : (true && (t.f0 == 51 && t.f2 == (s.size : Int))) = false := by simp [c51]
      rw [this]
      exact hbad
set_option maxRecDepth 100000 in
theorem classOf_calls (s : ByteArray) (k w1 wd : Int) (A : Option Addr) (c : Nat) (kids : List AT) (Ad : Option Addr) (cd : Nat) (ds : List S72) (Ab : Option Addr) (cb : Nat) (bs : List S43) (W : World) (hT : AtT W (.node k w1 wd A c kids)) (hd : Kd.C k72 W Ad ds.length ds) (hb : Kd.C k43 W Ab bs.length bs) (hdi : inDs ds) (hbi : inBs bs) (hn : ds.length + bs.length ≤ 100000)
    (hN : tsize (AT.node k w1 wd A c kids).erase ≤ 2000000) (hby : byteT (AT.node k w1 wd A c kids).erase) (htab : ColTab W) :
    Calls Tryd.prog 13 #[.string s, .agg #[.int .u8 k, .int .u8 w1, .int .i64 wd, .slice A kids.length c], .agg #[.slice Ad ds.length cd, .slice Ab bs.length cb]] W fun e W' => ∃ v, e = .returned (.tuple #[v, .int .i64 (errOf s (AT.node k w1 wd A c kids).erase)]) ∧ Kd.R k57 57 W' W.heap.size (fun _ => True) v (marksOf s (AT.node k w1 wd A c kids).erase ds bs) ∧ Below W.heap.size W W' := by
  have h0 : (AT.node k w1 wd A c kids).erase.f0 = k := by rw [erase_f]; rfl
  have h2 : (AT.node k w1 wd A c kids).erase.f2 = wd := by rw [erase_f]; rfl
  unfold errOf marksOf
  by_cases h : okB (AT.node k w1 wd A c kids).erase = true ∧ k = 51 ∧ wd = (s.size : Int)
  · have ho : okc s (AT.node k w1 wd A c kids).erase = true := by unfold okc; rw [h0, h2, h.1, h.2.1, h.2.2]; simp
    rw [if_pos ho, if_pos ho]
    obtain ⟨hok, rfl, rfl⟩ := h
    have hg := classOf_good s w1 A c kids Ad cd ds Ab cb bs W hT hd hb hdi hbi hn hok (Nat.le_trans (all_length _) hN) (fun x hx => by
      have := allT_fine hby (er x) (by rw [← er_all]; exact List.mem_map_of_mem hx)
      unfold fine er at this
      rw [show x.1.erase.f0 = x.1.k by rw [erase_f]] at this
      exact ⟨this.1, this.2.1⟩) htab
    rw [marksA_er, er_all] at hg
    exact hg
  · have ho : ¬ okc s (AT.node k w1 wd A c kids).erase = true := by
      unfold okc
      rw [h0, h2]
      simp only [Bool.and_eq_true, beq_iff_eq]
      exact h
    rw [if_neg ho, if_neg ho]
    refine (classOf_bad s k w1 wd A c kids _ _ W hT h).mono ?_
    rintro e W' ⟨rfl, hb⟩
    exact ⟨_, rfl, Kd.R_nil _ _ _ _ _, hb⟩
end Go.Proofs.YtobgkpnigjfhmaaDoor.H
