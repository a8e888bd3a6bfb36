/- glossatorref17.New. -/
import Derived.Test.YtghbfjmmjfklfaaQHRefParts
set_option linter.unusedVariables false
set_option linter.unusedSimpArgs false
namespace Go.Proofs.Ytghbfjmmjfklfaa.H
open Go.RowKit Go.Proofs.YtghbfjmmjfklfaaW.PrintWords Go.Proofs.YtghbfjmmjfklfaaW.PrintLast Go.Proofs.YtghbfjmmjfklfaaW.PrintMore
structure RN (w0 w : World) (n0 g : Nat) (v : Value) (fi oe ne : Int) (L : List Part3) (Al : Option Addr) (cl : Nat) (l : List S39) : Prop where
  low : Below n0 w0 w
  cur : w.heap[g]? = some (.cells #[v, .slice Al l.length cl, .int .i64 fi, .int .i64 oe, .int .i64 ne] 83 (0, 0))
  row : Kd.R (Kd.raw 6) 90 w n0 (fun q => n0 ≤ q) v (L.map rawP)
  toks : Kd.C k39 w Al l.length l
  n1 : n0 ≤ g
theorem RN.below {w0 w w' : World} {n0 g : Nat} {v : Value} {fi oe ne : Int} {L : List Part3} {Al : Option Addr} {cl : Nat} {l : List S39} (h : RN w0 w n0 g v fi oe ne L Al cl l) (hb : Below w.heap.size w w') : RN w0 w' n0 g v fi oe ne L Al cl l :=
  ⟨below_step2 h.low hb (Nat.le_of_lt (Nat.lt_of_le_of_lt h.n1 (blk_lt h.cur))), blk_below h.cur hb, Kd.R_below h.row hb, Kd.C_below h.toks hb, h.n1⟩
def RNewPost (W : World) (T : AT) (Al : Option Addr) (cl : Nat) (l : List S39) (fi oe ne : Int) (fit : Bool) (e : Ending) (W' : World) : Prop :=
  ∃ er, er = errN fi oe ne l.length fit ∧ Below W.heap.size W W' ∧ ((er ≠ 0 ∧ e = .returned (.tuple #[.pointer none, .int .i64 er])) ∨ (er = 0 ∧ ∃ g v, e = .returned (.tuple #[.pointer (some ⟨g, 0, none⟩), .int .i64 0]) ∧ RN W W' W.heap.size g v fi oe ne (partsT T 0) Al cl l))
theorem rnew_bad {W W' : World} {T : AT} {Al : Option Addr} {cl : Nat} {l : List S39} {fi oe ne : Int} {fit : Bool} {e : Ending} (er : Int) (h : errN fi oe ne l.length fit = er) (hb : Below W.heap.size W W') (hne : er ≠ 0) (he : e = .returned (.tuple #[.pointer none, .int .i64 er])) : RNewPost W T Al cl l fi oe ne fit e W' := ⟨er, h.symm, hb, .inl ⟨hne, he⟩⟩
set_option maxHeartbeats 8000000 in
set_option maxRecDepth 100000 in
theorem rnew_calls (W : World) (T : AT) (hT : AtT W T) (hby : byteT T.erase) (hts : tsize T.erase ≤ 1000000) (hsz : sizeT T ≤ 1000000) (Al : Option Addr) (cl : Nat) (l : List S39) (hr : Kd.C k39 W Al l.length l) (hc : l.length ≤ cl) (hl : l.length ≤ 1000000) (fi oe ne : Int) (fit : Bool) (hfit : fitsT T.erase l = fit) :
    Calls Try.prog 13 #[T.val, .slice Al l.length cl, .int .i64 fi, .int .i64 oe, .int .i64 ne] W fun e W' => RNewPost W T Al cl l fi oe ne fit e W' := by
  obtain ⟨k, w1, wd, A, c, kids⟩ := T
  simp only [AT.val, AT.k, AT.w, AT.wd, AT.A, AT.c, AT.kids]
  have HT := Aside0.mk hT
  have HBY := Aside0.mk hby
  have HTS := Aside0.mk hts
  have HSZ := Aside0.mk hsz
  have HR := Aside0.mk hr
  have HC := Aside0.mk hc
  have HF := Aside0.mk hfit
  obtain ⟨X, hX⟩ : ∃ V, V = W.alloc (.cells #[.int .u8 k, .int .u8 w1, .int .i64 wd, .slice A kids.length c] 27) := ⟨_, rfl⟩
  have hbX : Below W.heap.size W X := by rw [hX]; exact below_alloc (Below.refl _ _) _
  have HBX := Aside0.mk hbX
  have HK := Aside0.mk (show X.heap[W.heap.size]? = some (.cells #[.int .u8 k, .int .u8 w1, .int .i64 wd, .slice A kids.length c] 27 (0, 0)) by rw [hX]; exact heap_alloc_new _ _)
  have hu := Try.underlying27
  have huc := Try.underlying83
  clear hT hts hsz hr hc hfit hbX hby
  go_enter Try.func13, Try.ntmps13
  go_upto_region 1 with (fail)
  change Code.wp Try.prog _ _ _ (W.alloc (.cells #[.int .u8 k, .int .u8 w1, .int .i64 wd, .slice A kids.length c] 27))
  rw [← hX]
  clear hX
  by_cases h1 : fi < 0
  · go_wp2
    refine bodyPost_ret (results_tmp2 rfl _ _ _) rfl ?_
    exact rnew_bad 2 (by unfold errN; rw [if_pos (.inl h1)]) HBX.out (by decide) rfl
  by_cases h2 : oe < fi
  · go_wp2
    refine bodyPost_ret (results_tmp2 rfl _ _ _) rfl ?_
    exact rnew_bad 2 (by unfold errN; rw [if_pos (.inr (.inl h2))]) HBX.out (by decide) rfl
  by_cases h3 : ne < fi
  · go_wp2
    refine bodyPost_ret (results_tmp2 rfl _ _ _) rfl ?_
    exact rnew_bad 2 (by unfold errN; rw [if_pos (.inr (.inr (.inl h3)))]) HBX.out (by decide) rfl
  by_cases h4 : (l.length : Int) < oe
  · go_wp2
    refine bodyPost_ret (results_tmp2 rfl _ _ _) rfl ?_
    exact rnew_bad 2 (by unfold errN; rw [if_pos (.inr (.inr (.inr (.inl h4))))]) HBX.out (by decide) rfl
  by_cases h5 : 1048576 < ne
  · go_wp2
    refine bodyPost_ret (results_tmp2 rfl _ _ _) rfl ?_
    exact rnew_bad 2 (by unfold errN; rw [if_pos (.inr (.inr (.inr (.inr h5))))]) HBX.out (by decide) rfl
  have HER := Aside0.mk (show errN fi oe ne l.length fit = if fit then 0 else 150 by unfold errN; rw [if_neg (by omega)])
  have p0 := blk_cell HK.out 0
  have p1 := blk_cell HK.out 1
  have p2 := blk_cell HK.out 2
  have p3 := blk_cell HK.out 3
  have lX := blk_lt HK.out
  simp at p0 p1 p2 p3
  obtain ⟨kf, hkf⟩ := rfits_ev (AT.node k w1 wd A c kids).erase l HBY.out (by have := HTS.out; omega)
  have hfits := hkf kf (Nat.le_refl _)
  rw [HF.out] at hfits
  simp only [AT.erase] at hfits
  have HFITS := Aside0.mk hfits
  clear hfits hkf
  have hCk := C_of_AT _ _ (Nat.lt_succ_self _) W HT.out
  simp only [AT.A, AT.kids] at hCk
  have hkc : kids.length ≤ c := by have := HT.out; simp only [AtT] at this; exact this.1
  have HCK := Aside0.mk hCk
  have HKC := Aside0.mk hkc
  clear hCk hkc
  go_upto_region 3 with (fail)
  have hel := eraseL_length kids
  have hcall := glossatorref15_Fits.calls kf k w1 wd A c (eraseL kids) Al cl l fit X (by rw [hel]; exact Kd.C_below HCK.out HBX.out) (by rw [hel]; exact HKC.out) (Kd.C_below HR.out HBX.out) HC.out HFITS.out
  rw [hel] at hcall
  cases fit with
  | false =>
    go_wp2_with (go_at_call 40; refine hcall.mono ?_; rintro e w3 ⟨rfl, hb3⟩; have HB3 := Aside0.mk hb3; clear hb3 hcall)
    refine bodyPost_ret (results_tmp2 rfl _ _ _) rfl ?_
    exact rnew_bad 150 (by rw [HER.out]; rfl) (below_step HBX.out HB3.out) (by decide) rfl
  | true =>
    go_upto_region 5 with (go_at_call 40; refine hcall.mono ?_; rintro e w3 ⟨rfl, hb3⟩; have HB3 := Aside0.mk hb3; clear hb3 hcall)
    have hk3 := blk_below HK.out HB3.out
    clear p0 p1 p2 p3 lX
    have p0 := blk_cell hk3 0
    have p1 := blk_cell hk3 1
    have p2 := blk_cell hk3 2
    have p3 := blk_cell hk3 3
    have lX := blk_lt hk3
    simp at p0 p1 p2 p3
    clear hk3
    have HL3 := Aside0.mk (below_step HBX.out HB3.out)
    have hcall := rparts_calls W W.heap.size (Nat.le_refl _) (SizeOf.sizeOf (AT.node k w1 wd A c kids) + 1) (AT.node k w1 wd A c kids) (Nat.lt_succ_self _) HT.out 0 (.slice none 0 0) [] w3 HL3.out HL3.out.size (Kd.R_nil _ _ _ _ _) (Int.le_refl _) (by have := HSZ.out; omega) (by have := HSZ.out; simp only [List.length_nil]; omega)
    simp only [AT.val, AT.k, AT.w, AT.wd, AT.A, AT.c, AT.kids, List.nil_append] at hcall
    go_upto_region 6 with (go_at_call 41; refine hcall.mono ?_; rintro e w4 ⟨v4, rfl, hR4, hO4⟩; obtain ⟨A4, c4, e4⟩ := Kd.R_slice hR4; subst e4; rw [List.length_map] at *; have HR4 := Aside0.mk hR4; have HO4 := Aside0.mk hO4; clear hR4 hO4 hcall)
    have HL4 := Aside0.mk (show Below W.heap.size W w4 from HO4.out.low HL3.out (Nat.le_refl _) (fun k hk => by simp [Value.ownBlock] at hk))
    go_wp2
    refine bodyPost_ret (results_tmp2 rfl _ _ _) rfl ?_
    have hbz : ∀ o, Below w4.heap.size w4 (w4.alloc o) := fun o => below_alloc (Below.refl _ _) _
    have hl5 := fun o => below_step HL4.out (hbz o)
    exact ⟨0, by rw [HER.out]; rfl, hl5 _, .inr ⟨rfl, w4.heap.size, _, rfl, hl5 _, heap_alloc_new _ _, Kd.R_below HR4.out (hbz _), Kd.C_below HR.out (hl5 _), HL4.out.size⟩⟩
end Go.Proofs.Ytghbfjmmjfklfaa.H
