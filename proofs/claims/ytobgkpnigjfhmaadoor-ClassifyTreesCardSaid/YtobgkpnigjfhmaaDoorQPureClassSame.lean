/- Lists are the same as themselves; classify.Of over trees that read. -/
import Derived.Test.YtobgkpnigjfhmaaDoorQPureClassOf
import Derived.Test.YtobgkpnigjfhmaaDoorQHxglossatorref22Same
import Derived.Test.YtobgkpnigjfhmaaDoorQHxglossatorref20Same
set_option linter.unusedVariables false
set_option linter.unusedSimpArgs false
namespace Go.Proofs.YtobgkpnigjfhmaaDoor.H
open Go.RowKit Go.Shelf Go.Proofs.YtobgkpnigjfhmaaDoorW.PrintWords Go.Proofs.YtobgkpnigjfhmaaDoorW.PrintLast Go.Proofs.YtobgkpnigjfhmaaDoorW.PrintMore
theorem msame_l0 (r : List S57) : ∀ (q : List S57), q.length + r.length ≤ 2000000 → Ev (fun m => glossatorref22_Same.l0 m (q ++ r) (q ++ r) (q.length : Int)) true := by
  induction r with
  | nil => intro q h; exact Ev.step (f := fun _ => some true) (fun m => by rw [glossatorref22_Same.l0, if_neg (by simp)]) (Ev.now _)
  | cons x r ih =>
    intro q h
    simp only [List.length_cons] at h
    have h3 := ih (q ++ [x]) (by simp; omega)
    rw [List.append_assoc, List.singleton_append] at h3
    have hl : (q ++ x :: r).length = q.length + r.length + 1 := by simp; omega
    have hw : wrap64 ((q.length : Int) + 1) = ((q ++ [x]).length : Int) := by rw [wrap_id (by omega) (by omega)]; simp
    refine Ev.step (fun m => ?_) h3
    rw [glossatorref22_Same.l0, if_pos (by rw [hl]; omega), if_pos (by omega), if_pos (by rw [hl]; omega), if_neg (by simp), hw]
theorem msame_refl (l : List S57) (h : l.length ≤ 2000000) : Ev (fun m => glossatorref22_Same.f m l l) true := by
  have := msame_l0 l [] (by simpa using h)
  exact Ev.congr (fun m => by unfold glossatorref22_Same.f; rw [if_pos rfl]) (by simpa using this)
section
variable (ds : List S72) (bs : List S43)
theorem nsame_l1 (n : Nat) : ∀ i : Nat, bs.length - i = n → i ≤ bs.length → bs.length ≤ 2000000 → Ev (fun m => glossatorref20_Same.l1 m (i : Int) ds bs ds bs) true := by
  induction n with
  | zero => intro i h1 h2 h3; exact Ev.step (f := fun _ => some true) (fun m => by rw [glossatorref20_Same.l1, if_neg (by omega)]) (Ev.now _)
  | succ n ih =>
    intro i h1 h2 h3
    refine Ev.step (fun m => ?_) (ih (i + 1) (by omega) (by omega) h3)
    rw [glossatorref20_Same.l1, if_pos (by omega), if_pos (by omega), if_pos (by omega), if_neg (by simp), wrap_id (x := (i : Int) + 1) (by omega) (by omega)]
    rfl
theorem nsame_l0 (n : Nat) : ∀ i : Nat, ds.length - i = n → i ≤ ds.length → ds.length ≤ 2000000 → bs.length ≤ 2000000 → Ev (fun m => glossatorref20_Same.l0 m (i : Int) ds bs ds bs) true := by
  induction n with
  | zero => intro i h1 h2 h3 h4; exact Ev.step (fun m => by rw [glossatorref20_Same.l0, if_neg (by omega)]; rfl) (nsame_l1 ds bs bs.length 0 rfl (Nat.zero_le _) h4)
  | succ n ih =>
    intro i h1 h2 h3 h4
    refine Ev.step (fun m => ?_) (ih (i + 1) (by omega) (by omega) h3 h4)
    rw [glossatorref20_Same.l0, if_pos (by omega), if_pos (by omega), if_pos (by omega), if_neg (by simp), wrap_id (x := (i : Int) + 1) (by omega) (by omega)]
    rfl
theorem nsame_refl (h1 : ds.length ≤ 2000000) (h2 : bs.length ≤ 2000000) : Ev (fun m => glossatorref20_Same.f m ds bs ds bs) true := by
  refine Ev.congr (f := fun m => glossatorref20_Same.j0 m false ds bs ds bs) (fun m => by unfold glossatorref20_Same.f; rw [if_pos rfl]; simp) ?_
  exact Ev.step (fun m => by rw [glossatorref20_Same.j0, if_neg (by simp)]; rfl) (nsame_l0 ds bs ds.length 0 rfl (Nat.zero_le _) h1 h2)
end
theorem classOf_callsL (s : ByteArray) (k w1 wd : Int) (A : Option Addr) (c : Nat) (l : List S29) (Ad : Option Addr) (cd : Nat) (ds : List S72) (Ab : Option Addr) (cb : Nat) (bs : List S43) (W : World) (hr : Kd.C k29 W A l.length l) (hc : l.length ≤ c) (hd : Kd.C k72 W Ad ds.length ds) (hb : Kd.C k43 W Ab bs.length bs) (hdi : inDs ds) (hbi : inBs bs) (hn : ds.length + bs.length ≤ 100000)
    (hN : tsize ⟨k, w1, wd, l⟩ ≤ 2000000) (hby : byteT ⟨k, w1, wd, l⟩) (htab : ColTab W) :
    Calls Tryd.prog 13 #[.string s, .agg #[.int .u8 k, .int .u8 w1, .int .i64 wd, .slice A l.length c], .agg #[.slice Ad ds.length cd, .slice Ab bs.length cb]] W fun e W' => ∃ v, e = .returned (.tuple #[v, .int .i64 (errOf s ⟨k, w1, wd, l⟩)]) ∧ Kd.R k57 57 W' W.heap.size (fun _ => True) v (marksOf s ⟨k, w1, wd, l⟩ ds bs) ∧ Below W.heap.size W W' := by
  obtain ⟨kids, he, hT⟩ := exists_AT W _ ⟨k, w1, wd, l⟩ (Nat.lt_succ_self _) A c hc hr
  simp only at he hT
  subst he
  have h := classOf_calls s k w1 wd A c kids Ad cd ds Ab cb bs W hT hd hb hdi hbi hn (by simpa only [AT.erase] using hN) (by simpa only [AT.erase] using hby) htab
  simp only [AT.erase] at h
  rw [eraseL_length]
  exact h
end Go.Proofs.YtobgkpnigjfhmaaDoor.H
