/- The document's cache: Drop. -/
import Derived.Test.YtaphacgdokhmmaaDoorVHRefShown
set_option linter.unusedVariables false
set_option linter.unusedSimpArgs false
namespace Go.Proofs.YtaphacgdokhmmaaDoor.H
open Go.RowKit Go.Shelf Go.Proofs.YtaphacgdokhmmaaDoorW.PrintWords Go.Proofs.YtaphacgdokhmmaaDoorW.PrintLast Go.Proofs.YtaphacgdokhmmaaDoorW.PrintMore
theorem N_open {W : World} {base n c : Nat} {ok : Nat → Prop} {A : Option Addr} {L : List PutR} (h : Kd.N kput 74 W base ok (.slice A n c) L) (i : Nat) (hi : i < L.length) :
    ∃ g A2 c2, A = some ⟨g, 0, none⟩ ∧ ok g ∧ g < W.heap.size ∧ (∀ y : Bool, Kd.FK kput W (fun k => ok k ∧ k ≠ g) ((L.getD i default).1, (L.getD i default).2.1, (L.getD i default).2.2.1, y) [.string (L.getD i default).1, .string (L.getD i default).2.1, .slice A2 (L.getD i default).2.2.1.length c2, .bool y]) ∧
      ∀ j u, [Value.string (L.getD i default).1, .string (L.getD i default).2.1, .slice A2 (L.getD i default).2.2.1.length c2, .bool (L.getD i default).2.2.2][j]? = some u → W.cell? ⟨g, i * 4 + j, none⟩ = some u := by
  obtain ⟨h0, rows, hl, hR, hf⟩ := h
  obtain ⟨g, rfl⟩ : ∃ g, A = some ⟨g, 0, none⟩ := by
    rcases hR.2.choose_spec.1.2 with ⟨_, h2⟩ | ⟨g, cap, cur, h1, _⟩
    · omega
    · injection h1 with h1
      exact ⟨g, h1⟩
  have hgl : g < W.heap.size := own_lt hR.2.choose_spec.1 g rfl
  obtain ⟨ad, cs, e, hcl, hK, hc⟩ := Kd.C_get (Kd.R_reads' hR).2.2 [] (i : Int) (by omega) (by omega)
  rw [Int.toNat_natCast] at hK hc
  obtain rfl : (⟨g, 0, none⟩ : Addr) = ad := Option.some.inj e
  obtain ⟨hK, _, _⟩ := hK
  have hri : rows[i]? = some cs := by rw [hK, List.getD_eq_getElem?_getD, List.getElem?_eq_getElem (by omega)]; rfl
  have hLi : L[i]? = some (L.getD i default) := by rw [List.getD_eq_getElem?_getD, List.getElem?_eq_getElem hi]; rfl
  have hF := hf i _ _ hLi hri
  obtain ⟨x, hx⟩ : ∃ x, x = L.getD i default := ⟨_, rfl⟩
  rw [← hx] at hF ⊢
  obtain ⟨xu, xi, xd, xg⟩ := x
  obtain ⟨c1, r1, rfl, h1, c2, r2, rfl, h2, c3, r3, rfl, h3, h4⟩ := Kd.FK_now hF
  obtain rfl : c1 = [.string xu] := h1
  obtain rfl : c2 = [.string xi] := h2
  obtain rfl : r3 = [.bool xg] := h4
  obtain ⟨A2, cc, rfl, l0, g0⟩ := h3
  refine ⟨g, A2, cc, rfl, h0 g rfl, hgl, fun y W' hW => ?_, fun j u hu => ?_⟩
  · obtain ⟨c1', r1', e1, h1', c2', r2', e2, h2', c3', r3', e3, h3', h4'⟩ := hF W' (fun q hq => hW q ⟨hq.1, fun e => hq.2 (by rw [e]; rfl)⟩)
    obtain rfl : c1' = [.string xu] := h1'
    obtain rfl : c2' = [.string xi] := h2'
    obtain rfl : r3' = [.bool xg] := h4'
    subst e2
    obtain ⟨A3, c3_, rfl, l3, g3⟩ := h3'
    subst e3
    simp only [List.cons_append, List.nil_append, List.cons.injEq, true_and, and_true, Value.slice.injEq] at e1
    exact ⟨[.string xu], _, rfl, rfl, [.string xi], _, rfl, rfl, [.slice A2 xd.length cc], _, rfl, ⟨A2, cc, rfl, l0, by rw [e1.1]; exact g3⟩, rfl⟩
  · have := hc j u hu
    rw [show (⟨g, 0, none⟩ : Addr).add (i * (Kd.raw kput.sz).sz + j) = ⟨g, i * 4 + j, none⟩ by simp [Addr.add, eq_comm, show (Kd.raw kput.sz).sz = 4 from rfl]; intros; omega] at this
    exact this
def mix (L : List PutR) (u : ByteArray) (i : Nat) : List PutR := (L.take i).map (dropR u) ++ L.drop i
theorem mix_len (L : List PutR) (u : ByteArray) (i : Nat) : (mix L u i).length = L.length := by unfold mix; simp; omega
theorem mix_at (L : List PutR) (u : ByteArray) (i : Nat) (hi : i < L.length) : (mix L u i).getD i default = L.getD i default := by
  unfold mix
  rw [List.getD_eq_getElem?_getD, List.getElem?_append_right (by simp; omega), List.getElem?_drop, List.getD_eq_getElem?_getD]
  congr 2
  simp
  omega
theorem mix_set (L : List PutR) (u : ByteArray) (i : Nat) (hi : i < L.length) : (mix L u i).set i (dropR u (L.getD i default)) = mix L u (i + 1) := by
  unfold mix
  rw [List.set_append_right _ _ (by simp; omega), List.length_map, List.length_take, show i - min i L.length = 0 by omega, List.drop_eq_getElem_cons hi, List.set_cons_zero, List.take_add_one, List.map_append, List.getElem?_eq_getElem hi, List.getD_eq_getElem?_getD, List.getElem?_eq_getElem hi]
  simp
theorem mix_same (L : List PutR) (u : ByteArray) (i : Nat) (hi : i < L.length) (h : dropR u (L.getD i default) = L.getD i default) : mix L u (i + 1) = mix L u i := by
  rw [← mix_set L u i hi, h, ← mix_at L u i hi]
  have hl : i < (mix L u i).length := by rw [mix_len]; exact hi
  rw [List.getD_eq_getElem?_getD, List.getElem?_eq_getElem hl, Option.getD_some, List.set_getElem_self]
theorem Chg.refl_ (Fp : Nat → Prop) (W : World) : Chg Fp W W := ⟨rfl, rfl, rfl, Nat.le_refl _, fun _ _ _ => rfl⟩
theorem Chg.trans_ {Fp : Nat → Prop} {W W1 W2 : World} (h : Chg Fp W W1) (k : Chg Fp W1 W2) : Chg Fp W W2 :=
  ⟨k.os.trans h.os, k.tape.trans h.tape, k.output.trans h.output, Nat.le_trans h.size k.size, fun q hq hf => (k.block q (Nat.lt_of_lt_of_le hq h.size) hf).trans (h.block q hq hf)⟩
set_option maxHeartbeats 8000000 in
set_option maxRecDepth 100000 in
theorem rdrop_calls (Fr : Nat → Prop) (b c : Nat) (A : Option Addr) (L : List PutR) (W : World) (h : RC Fr W b A c L) (u : ByteArray) (hL : L.length ≤ 100000) :
    Calls Tryd.prog 19 #[.pointer (some ⟨b, 0, none⟩), .string u] W fun e W' => e = .returned (.tuple #[]) ∧ RC Fr W' b A c (L.map (dropR u)) ∧ Chg Fr W W' := by
  have HX := Aside0.mk h
  have HL := Aside0.mk hL
  clear h
  go_enter Tryd.func19, Tryd.ntmps19
  go_upto_region 1 with (fail)
  go_loopg [4] L.length (fun kq v4 w' => ∃ i : Nat, v4 = .int .i64 i ∧ i ≤ L.length ∧ Aside0 (kq = L.length - i) ∧ Aside0 (RC Fr w' b A c (mix L u i)) ∧ Aside0 (Chg Fr W w'))
  case atStart => exact ⟨0, rfl, Nat.zero_le _, ⟨rfl⟩, ⟨by unfold mix; simpa using HX.out⟩, ⟨Chg.refl_ _ _⟩⟩
  case round =>
    obtain ⟨i, rfl, hi, HK, HR, HC⟩ := hrel
    have hL := HL.out
    have c0 := HR.out.cell
    rw [mix_len] at c0
    by_cases hlt : i < L.length
    · obtain ⟨g, A2, c2, e1, hok, hgl, hM, hcc⟩ := N_open HR.out.row i (by rw [mix_len]; exact hlt)
      rw [mix_at L u i hlt] at hM hcc
      subst e1
      obtain ⟨x, hx⟩ : ∃ x, x = L.getD i default := ⟨_, rfl⟩
      have HDX := Aside0.mk hx
      rw [← hx] at hM hcc
      clear hx
      obtain ⟨xu, xi, xd, xg⟩ := x
      simp only at hM hcc
      have HM := Aside0.mk hM
      have HCC := Aside0.mk hcc
      have k0 : wr.cell? ⟨g, i * 4, none⟩ = some (.string xu) := hcc 0 _ rfl
      clear hM hcc
      by_cases he : (xu.toList == u.toList) = true
      · have hdr : dropR u (xu, xi, xd, xg) = (xu, xi, xd, true) := by unfold dropR; rw [if_pos he]
        have HDR := Aside0.mk hdr
        clear hdr
        go_wp2_with ((with_reducible refine gate_store (t := 4) (p := 30) (v := .const (.bool true)) rfl ?_); refine Kd.N_store kput (w0 := wr) 0 rfl rfl 4 (.tmp 30) (.const (.bool true)) rfl 74 (g := g) (n := (mix L u i).length) (cap := c) (i : Int) 3 (mix L u i) (xu, xi, xd, true) (.bool true) [.bool true] [.string xu, .string xi, .slice A2 xd.length c2, .bool xg] (fun q => Fr q ∧ q ≠ b) (fun q => (Fr q ∧ q ≠ b) ∧ q ≠ g) rfl ?hoff rfl rfl (by kernel_rfl) (by simp [Value.oneCell']) HR.out.row (by omega) (by rw [mix_len]; omega) rfl ?hcc (by show 3 + 1 ≤ 4; omega) (HM.out true) (fun k hk => hk) (Below.refl _ _) ?_; (case hoff => first | rfl | (simp [show kput.sz = 4 from rfl]; done) | (show _ = (i : Int).toNat * 4 + 3; rw [Int.toNat_natCast])); (case hcc => intro j u_ hu_; have := HCC.out j u_ hu_; rw [Int.toNat_natCast]; exact this); intro w1 hN1 _ hg1; have HN1 := Aside0.mk hN1; have HG1 := Aside0.mk hg1; clear hN1 hg1)
        have HBB := Aside0.mk ((HG1.out.block b (blk_lt HR.out.blk) (fun e => hok.2 (Option.some.inj e).symm)).trans HR.out.blk)
        have HSET := Aside0.mk (show (mix L u i).set (i : Int).toNat (xu, xi, xd, true) = mix L u (i + 1) by rw [Int.toNat_natCast, ← HDR.out, HDX.out]; exact mix_set L u i hlt)
        have HR1 := Aside0.mk (show RC Fr w1 b (some ⟨g, 0, none⟩) c (mix L u (i + 1)) from ⟨by rw [mix_len]; have := HBB.out; rw [mix_len] at this; exact this, HR.out.fb, by have := HN1.out; rw [HSET.out, mix_len] at this; rw [mix_len]; exact this⟩)
        have HC1 := Aside0.mk (show Chg Fr W w1 from HC.out.trans_ ⟨HG1.out.os, HG1.out.tape, HG1.out.output, HG1.out.size, fun q hq hf => HG1.out.block q hq (fun e => hf (by rw [Option.some.inj e]; exact hok.1))⟩)
        go_roundg (L.length - (i + 1))
        case measure => have := HK.out; omega
        case rel => exact ⟨i + 1, by go_num, by omega, ⟨rfl⟩, HR1, HC1⟩
      · have HSM := Aside0.mk (mix_same L u i hlt (by rw [← HDX.out]; unfold dropR; rw [if_neg he]))
        simp only [Bool.not_eq_true] at he
        go_wp2
        go_roundg (L.length - (i + 1))
        case measure => have := HK.out; omega
        case rel => exact ⟨i + 1, by go_num, by omega, ⟨rfl⟩, ⟨by rw [HSM.out]; exact HR.out⟩, HC⟩
    · have hie : i = L.length := by omega
      subst hie
      have hfin : mix L u L.length = L.map (dropR u) := by unfold mix; simp
      go_wp2
      exact ⟨rfl, .tuple #[], by simp [results, show Tryd.f19.results = #[] from rfl, go_sem], rfl, by rw [← hfin]; exact HR.out, HC.out⟩
end Go.Proofs.YtaphacgdokhmmaaDoor.H
