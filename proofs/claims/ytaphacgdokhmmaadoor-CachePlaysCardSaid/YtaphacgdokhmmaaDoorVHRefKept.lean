/- The document's cache: what stands in memory; kept. -/
import Derived.Test.YtaphacgdokhmmaaDoorVPureRefCache
set_option linter.unusedVariables false
set_option linter.unusedSimpArgs false
namespace Go.Proofs.YtaphacgdokhmmaaDoor.H
open Go.RowKit Go.Shelf Go.Proofs.YtaphacgdokhmmaaDoorW.PrintWords Go.Proofs.YtaphacgdokhmmaaDoorW.PrintLast Go.Proofs.YtaphacgdokhmmaaDoorW.PrintMore
instance : Inhabited PutR := ⟨(ByteArray.empty, ByteArray.empty, [], false)⟩
structure RC (Fr : Nat → Prop) (W : World) (b : Nat) (A : Option Addr) (c : Nat) (L : List PutR) : Prop where
  blk : W.heap[b]? = some (.cells #[.slice A L.length c] 31 (0, 0))
  fb : Fr b
  row : Kd.N kput 74 W 0 (fun q => Fr q ∧ q ≠ b) (.slice A L.length c) L
section
variable {Fr : Nat → Prop} {W W' : World} {b c : Nat} {A : Option Addr} {L : List PutR}
theorem RC.keep (h : RC Fr W b A c L) (hk : ∀ q, Fr q → q < W.heap.size → W'.heap[q]? = W.heap[q]?) : RC Fr W' b A c L :=
  ⟨(hk b h.fb (blk_lt h.blk)).trans h.blk, h.fb, Kd.N_step h.row (fun q hq hl => hk q hq.1 hl)⟩
theorem RC.below (h : RC Fr W b A c L) (hb : Below W.heap.size W W') : RC Fr W' b A c L := h.keep (fun q _ hq => hb.block q hq)
theorem RC.cell (h : RC Fr W b A c L) : W.cell? ⟨b, 0, none⟩ = some (.slice A L.length c) := by
  have := blk_cell h.blk 0
  simpa using this
structure PutIs (W : World) (p : Addr) (A2 : Option Addr) (c2 : Nat) (x : PutR) : Prop where
  u : W.cell? p = some (.string x.1)
  i : W.cell? ⟨p.block, p.off + 1, none⟩ = some (.string x.2.1)
  d : W.cell? ⟨p.block, p.off + 2, none⟩ = some (.slice A2 x.2.2.1.length c2)
  g : W.cell? ⟨p.block, p.off + 3, none⟩ = some (.bool x.2.2.2)
theorem PutIs.below {w : World} {p : Addr} {A2 : Option Addr} {c2 : Nat} {x : PutR} (h : PutIs W p A2 c2 x) (hb : Below W.heap.size W w) : PutIs w p A2 c2 x := by
  have hl := World.block_lt_of_cell? W _ h.u
  exact ⟨(hb.cell hl).trans h.u, (hb.cell (p := ⟨p.block, p.off + 1, none⟩) hl).trans h.i, (hb.cell (p := ⟨p.block, p.off + 2, none⟩) hl).trans h.d, (hb.cell (p := ⟨p.block, p.off + 3, none⟩) hl).trans h.g⟩
theorem put_at (h : Kd.C kput W A L.length L) (i : Nat) (hi : i < L.length) :
    ∃ ad A2 c2, A = some ad ∧ PutIs W (ad.add (i * 4)) A2 c2 (L.getD i default) ∧ (L.getD i default).2.2.1.length ≤ c2 ∧ Kd.C (Kd.int .i64) W A2 (L.getD i default).2.2.1.length (L.getD i default).2.2.1 := by
  obtain ⟨ad, cs, e, _, hK, hc0⟩ := Kd.C_get h default (i : Int) (by omega) (by omega)
  have hc : ∀ j u, cs[j]? = some u → W.cell? (ad.add (i * 4 + j)) = some u := fun j u hu => by have := hc0 j u hu; rw [Int.toNat_natCast] at this; exact this
  simp only [Int.toNat_natCast] at hK
  obtain ⟨c1, r1, rfl, h1, c2, r2, rfl, h2, c3, r3, rfl, h3, h4⟩ := hK
  obtain rfl : c1 = [.string (L.getD i default).1] := h1
  obtain rfl : c2 = [.string (L.getD i default).2.1] := h2
  obtain rfl : r3 = [.bool (L.getD i default).2.2.2] := h4
  obtain ⟨A2, cc, rfl, l0, g0⟩ := h3
  exact ⟨ad, A2, cc, e, ⟨by simpa using hc 0 _ rfl, by rw [← add_field _ _ 1 (by omega)]; exact hc 1 _ rfl, by rw [← add_field _ _ 2 (by omega)]; exact hc 2 _ rfl, by rw [← add_field _ _ 3 (by omega)]; exact hc 3 _ rfl⟩, l0, g0⟩
end
def upI (L : List PutR) (u : ByteArray) : Nat → List Int → List Int
  | 0, acc => acc
  | i + 1, acc => if acc.length < 4 then upI L u i (if live u (L.getD i default) = true then (i : Int) :: acc else acc) else acc
theorem upI_len (L : List PutR) (u : ByteArray) : ∀ (i : Nat) (acc : List Int), acc.length ≤ 4 → (upI L u i acc).length ≤ 4
  | 0, acc, h => h
  | i + 1, acc, h => by
    unfold upI
    split
    · refine upI_len L u i _ ?_
      split
      · simp; omega
      · exact h
    · exact h
theorem upI_succ (L : List PutR) (u : ByteArray) (i : Nat) (acc : List Int) : upI L u (i + 1) acc = if acc.length < 4 then upI L u i (if live u (L.getD i default) = true then (i : Int) :: acc else acc) else acc := rfl
set_option maxHeartbeats 8000000 in
set_option maxRecDepth 100000 in
theorem rkept_calls (Fr : Nat → Prop) (b c : Nat) (A : Option Addr) (L : List PutR) (W : World) (h : RC Fr W b A c L) (u : ByteArray) (hL : L.length ≤ 100000) :
    Calls Tryd.prog 29 #[.pointer (some ⟨b, 0, none⟩), .string u] W fun e W' => ∃ v, e = .returned v ∧ Kd.R (Kd.int .i64) 3 W' W.heap.size (fun q => W.heap.size ≤ q) v (upI L u L.length []) ∧ Below W.heap.size W W' := by
  have HX := Aside0.mk h
  have HL := Aside0.mk hL
  have c0 := h.cell
  clear h
  go_enter Tryd.func29, Tryd.ntmps29
  go_upto_region 3 with (fail)
  clear c0
  go_loopg [5, 6] L.length (fun kq v5 v6 w' => ∃ (i : Nat) (z : Int) (acc : List Int), v6 = .int .i64 z ∧ z = (i : Int) - 1 ∧ i ≤ L.length ∧ acc.length ≤ 4 ∧ Aside0 (kq = i) ∧ Aside0 (Below W.heap.size W w') ∧ Aside0 (Kd.R (Kd.int .i64) 3 w' W.heap.size (fun q => W.heap.size ≤ q) v5 acc) ∧ Aside0 (upI L u i acc = upI L u L.length []))
  case atStart => exact ⟨L.length, (L.length : Int) - 1, [], by go_num, rfl, Nat.le_refl _, by simp, ⟨rfl⟩, ⟨Below.refl _ _⟩, ⟨Kd.R_nil _ _ _ _ _⟩, ⟨rfl⟩⟩
  case round =>
    obtain ⟨i, z, acc, rfl, hz, hi, ha, HK, HB, HR, HE⟩ := hrel
    obtain ⟨Av, cv, rfl, _, _⟩ := Kd.R_reads HR.out
    have hL := HL.out
    cases i with
    | zero =>
      have hz0 : ¬ (0 : Int) ≤ z := by omega
      go_wp2
      go_ret
      rw [← show acc = upI L u L.length [] from HE.out]
      exact ⟨_, rfl, HR.out, HB.out⟩
    | succ i =>
      obtain rfl : z = (i : Int) := by push_cast at hz; omega
      clear hz
      by_cases h4 : acc.length < 4
      · have h4i : (acc.length : Int) < 4 := by omega
        have hE : upI L u i (if live u (L.getD i default) = true then (i : Int) :: acc else acc) = upI L u L.length [] := by
          have := HE.out
          rw [upI_succ] at this
          rw [if_pos h4] at this
          exact this
        have HE2 := Aside0.mk hE
        clear hE
        obtain ⟨ad, A2, c2, e1, hp, _, _⟩ := put_at (Kd.N_reads' (HX.out.below HB.out).row).2.2 i (by omega)
        have c0 := (HX.out.below HB.out).cell
        obtain ⟨x, hx⟩ : ∃ x, x = L.getD i default := ⟨_, rfl⟩
        rw [← hx] at hp HE2
        clear hx
        obtain ⟨xu, xi, xd, xg⟩ := x
        subst e1
        obtain ⟨k0, k1, k2, k3⟩ := hp
        simp only at k0 k1 k2 k3
        have hii : i < L.length := by omega
        by_cases he : xu.toList = u.toList
        · have heq : (xu.toList == u.toList) = true := beq_iff_eq.mpr he
          clear he
          cases xg with
          | true =>
            have HE3 := Aside0.mk (show upI L u i acc = upI L u L.length [] by have := HE2.out; rw [if_neg (by simp [live])] at this; exact this)
            go_wp2
            go_roundg i
            case measure => have := HK.out; omega
            case rel => exact ⟨i, (i : Int) - 1, acc, by go_num, rfl, by omega, by omega, ⟨rfl⟩, HB, HR, HE3⟩
          | false =>
            have HE3 := Aside0.mk (show upI L u i ((i : Int) :: acc) = upI L u L.length [] by have := HE2.out; rw [if_pos (by simp [live, heq])] at this; exact this)
            have HBX := Aside0.mk HB.out.size
            obtain ⟨_, _, hCa⟩ := Kd.R_reads' HR.out
            have HCA := Aside0.mk hCa
            clear hCa
            go_wp2_with (first | ((with_reducible refine gate_dst (N := 44) rfl ?_); refine Kd.R_lit (Kd.int .i64) W.heap.size 3 ?hg (N := 44) ?hd (xs := [(i : Int)]) (inner := [.int .i64 i]) (ok := fun q => W.heap.size ≤ q) (okp := fun _ => False) ?hr ?hp (fun _ hk => hk.elim) HBX.out HB.out HBX.out (by simp) ?_; (case hd => rfl); (case hg => rfl); (case hr => first | (go_simp; done) | (go_simp; rfl)); (case hp => exact Reps.one rfl (Reps.none _ _)); intro v8 w8 ho8 hb8 hg8 hnew8; have HO8 := Aside0.mk ho8; have HB8 := Aside0.mk hb8; have HR8 := Aside0.mk (Kd.R_reads' (Kd.R_grown HR.out hg8 (fun _ _ => by simp))).2.2; clear hg8 hnew8 ho8 hb8) | ((with_reducible refine gate_builtin (b := .append) (xs := #[.tmp 44, .tmp 45]) rfl ?_); at_builtin; refine Kd.R_append_rows (Kd.int .i64) (w0 := W) W.heap.size rfl (.tmp 44) (.tmp 45) 34 3 (.int .i64 0) 8 rfl Tryd.underlying34 info3 rfl (by decide) (by omega) v8 [(i : Int)] acc _ _ _ (fun q => W.heap.size ≤ q) (fun _ => False) rfl rfl HO8.out HR8.out (fun _ _ h => h) (fun _ h => h.elim) (fun q hq => Nat.le_trans HB8.out.size hq) HB8.out HB8.out.size (by simp only [List.length_singleton]; omega) ?_; intro v9 w9 ho9 hb9 hg9 hat9; rw [List.singleton_append] at ho9; have HO9 := Aside0.mk ho9; have HB9 := Aside0.mk hb9; clear ho9 hb9 hg9 hat9))
            go_roundg i
            case measure => have := HK.out; omega
            case rel => exact ⟨i, (i : Int) - 1, (i : Int) :: acc, by go_num, rfl, by omega, by simp only [List.length_cons]; omega, ⟨rfl⟩, HB9, HO9, HE3⟩
        · have heq : (xu.toList == u.toList) = false := beq_eq_false_iff_ne.mpr he
          clear he
          have HE3 := Aside0.mk (show upI L u i acc = upI L u L.length [] by have := HE2.out; rw [if_neg (by simp [live, heq])] at this; exact this)
          go_wp2
          go_roundg i
          case measure => have := HK.out; omega
          case rel => exact ⟨i, (i : Int) - 1, acc, by go_num, rfl, by omega, by omega, ⟨rfl⟩, HB, HR, HE3⟩
      · have h4i : ¬ (acc.length : Int) < 4 := by omega
        go_wp2
        go_ret
        have hE : acc = upI L u L.length [] := by
          have := HE.out
          rw [upI_succ] at this
          rw [if_neg h4] at this
          exact this
        rw [← hE]
        exact ⟨_, rfl, HR.out, HB.out⟩
end Go.Proofs.YtaphacgdokhmmaaDoor.H
